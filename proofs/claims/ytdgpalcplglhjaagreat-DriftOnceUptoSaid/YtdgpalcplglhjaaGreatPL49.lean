/- DriftOnce, on the models: a session that only reads, step by step. -/
import Derived.Test.YtdgpalcplglhjaaGreatPL48
set_option linter.all false
set_option linter.unusedSectionVars false
namespace Ve
open Go
def Cy (gs:List Int):Nat→Int
 | 0=>0
 | i+1=>orI (Cy gs i) (gs.getD i 0)
def Db (gs:List Int):Nat→Nat
 | 0=>0
 | i+1=>Db gs i+if orI (Cy gs i) (gs.getD i 0)=Cy gs i then 0 else 1
theorem or4 {a b:Int} (ha:inR a 3=true) (hb:inR b 3=true):inR (orI a b) 3=true:=(UD ha hb).1
theorem KC {gs:List Int} (h:∀ g∈gs,inR g 3=true) (i:Nat):inR (gs.getD i 0) 3=true:=by
 rw [List.getD_eq_getElem?_getD]
 cases hq:gs[i]? with
 | none=>rfl
 | some g=>exact h g (List.mem_of_getElem? hq)
theorem Ku {gs:List Int} (h:∀ g∈gs,inR g 3=true):∀ i,inR (Cy gs i) 3=true
 | 0=>rfl
 | i+1=>or4 (Ku h i) (KC h i)
def pcL (l:Int):Nat:=if l=0 then 0 else if l=3 then 2 else 1
theorem Sn {gs:List Int} (h:∀ g∈gs,inR g 3=true):∀ i,Db gs i≤pcL (Cy gs i)
 | 0=>Nat.zero_le _
 | i+1=>by
  have ih:=Sn h i
  have h1:=Ku h i
  have h2:=KC h i
  simp only [Db,Cy]
  generalize Cy gs i=a at *
  generalize gs.getD i 0=b at *
  generalize Db gs i=w at *
  have key:orI a b=a∨pcL a+1≤pcL (orI a b):=by
   rcases FI h1 with rfl | rfl | rfl | rfl<;>rcases FI h2 with rfl | rfl | rfl | rfl<;>decide
  rcases key with he | hk
  ·rw [he,if_pos rfl];exact ih
  ·split
   ·rename_i he;rw [he] at hk ⊢;omega
   ·omega
theorem Ye {gs:List Int} (h:∀ g∈gs,inR g 3=true) (i:Nat):Db gs i≤2:=by
 have h1:=Sn h i
 have:∀ l,pcL l≤2:=by
  intro l
  unfold pcL
  split
  ·omega
  ·split<;>omega
 have:=this (Cy gs i)
 omega
def rdJ (g:Int):Av:=⟨2,0,g,0⟩
abbrev JV:A4 (List Al):=⟨[⟨5,0,0⟩,⟨6,0,0⟩],[⟨7,0,0⟩],[⟨1,0,0⟩],[⟨9,0,0⟩]⟩
def MDr (gs:List Int):Ad:=⟨JV,⟨0,0,0,0⟩,9,[S3p [⟨2,0,0,0⟩,⟨1,0,0,0⟩,⟨3,0,0,0⟩],S5p 0 3 (gs.map rdJ)],[]⟩
theorem jK {gs:List Int} (h:∀ g∈gs,inR g 3=true):∀ (n a:Int),BP n a (gs.map rdJ)=true:=by
 induction gs with
 | nil=>intro n a;rfl
 | cons g r ih =>
  intro n a
  have h1:Bd (rdJ g)=true:=by
   have:=h g (by simp)
   simp [Bd,rdJ,this];decide
  simp only [List.map_cons,BP,h1,Bool.true_and]
  rw [ih (fun x hx=>h x (by simp [hx]))]
  simp [rdJ]
theorem Zv {g:Int} (h:inR g 3=true):AW JV g 0=true:=by
 rcases FI h with rfl | rfl | rfl | rfl<;>decide
theorem tK {gs:List Int} (h:∀ g∈gs,inR g 3=true) (hl:gs.length≤10):Inv (MDr gs):=by
 have hm:Ei (MDr gs)=true:=by
  refine kZ (by decide) (by show (3:Int)<5;decide) (RZ (by decide) (by decide)) (RZ ?_ ?_)
  ·have h1:Dn (gs.map rdJ)=true:=by
    unfold Dn
    rw [jK h]
    simp;omega
   simp only [Cm,h1,Bool.and_true]
   decide
  ·simp only [Cr,List.all_map,List.all_eq_true]
   intro g hg
   simp only [Function.comp,rdJ,Zv (h g hg),Bool.or_true]
 have e:MDr gs=Ce ⟨⟨[5,6],[7],[1],[9]⟩,9,[⟨3,0,3,[⟨2,0,0,0⟩,⟨1,0,0,0⟩,⟨3,0,0,0⟩]⟩,⟨5,0,3,gs.map rdJ⟩],[]⟩:=rfl
 rw [e] at hm ⊢
 exact Qj hm
structure DrM (gs:List Int) (m:Ad) (j:Nat) (l:Int):Prop where
 inv:Inv m
 words:m.words=JV
 len:m.sess.length=2
 s:∃ s,m.sess[1]?=some s∧s.step=0∧s.pc=(j:Int)∧s.label=l∧s.clear=3∧s.prog=gs.map rdJ∧s.writes=[]∧∀ r∈s.reads,r.ver=0
theorem PF (l i:Int):(Bx JV l i).ver=0∧(Bx JV l i).lock=0:=by
 have key:∀ r:List Al,(∀ w∈r,w.ver=0∧w.lock=0)→∀ n:Nat,(r[n]?.getD El).ver=0∧(r[n]?.getD El).lock=0:=by
  intro r hr n
  cases hq:r[n]? with
  | none=>exact ⟨rfl,rfl⟩
  | some w=>exact hr w (List.mem_of_getElem? hq)
 unfold Bx A4.get
 split
 ·exact key _ (by simp) _
 ·split
  ·exact key _ (by simp) _
  ·split
   ·exact key _ (by simp) _
   ·exact key _ (by simp) _
theorem eP {gs:List Int} (h:∀ g∈gs,inR g 3=true) (hl:gs.length≤10):DrM gs (MDr gs) 0 0 :=
 ⟨tK h hl,rfl,rfl,⟨S5p 0 3 (gs.map rdJ),rfl,rfl,rfl,rfl,rfl,rfl,rfl,by simp⟩⟩
theorem Wx {gs:List Int} (h:∀ g∈gs,inR g 3=true) {m:Ad} {j:Nat} {l:Int} (D:DrM gs m j l) (hj:j<gs.length) (hl:inR l 3=true) :
  (orI l (gs.getD j 0)=l→(BF m 1)=(false,0)∧∃ A,BL m 1=(A,0)∧DrM gs A (j+1) l) ∧
  (orI l (gs.getD j 0)≠l→(BF m 1)=(true,0)∧∃ A,Bn m 1=(A,0)∧DrM gs A j (orI l (gs.getD j 0))):=by
 obtain ⟨inv,hw,hlen,s,hs,hst,hpc,hlab,hcl,hpr,hwr,hrd⟩:=D
 have hM:=inv.may
 have hS:=JN hs inv
 have hg:=KC h j
 have hi:s.prog[j]?=some (rdJ (gs.getD j 0)):=by
  rw [hpr,List.getElem?_map,List.getD_eq_getElem?_getD,List.getElem?_eq_getElem hj];rfl
 have hcur:CA m 1=some (s,rdJ (gs.getD j 0)):=Dp (k:=1) hs hM hst hpc hi
 generalize gs.getD j 0=g at *
 have hor:orI g l=orI l g:=by rcases FI hl with rfl | rfl | rfl | rfl<;>rcases FI hg with rfl | rfl | rfl | rfl<;>decide
 have hun:AG g l=decide (orI l g=l):=by unfold AG;rw [hor]
 have hneeds:BF m 1=(!AG g l,0):=by
  unfold BF;rw [hcur];simp only [rdJ,hlab,if_true]
 constructor
 ·intro he
  have hu:AG g l=true:=by rw [hun,he];simp
  refine ⟨by rw [hneeds,hu];rfl,?_⟩
  obtain ⟨A,h1,h2,h3,t,h4⟩:=Hy (k:=1) hs inv
  refine ⟨A,h1,?_⟩
  have hgood:s.reads.all (Cz m.words s.id)=true:=by
   rw [List.all_eq_true]
   intro r hr
   have:=PF r.level r.index
   simp only [Cz,hw,this.1,this.2,hrd r hr,decide_true,Bool.true_or,Bool.and_self]
  have hrun:Fg m 1 s=some (AT (AA m 1 (Cp s (rdJ g) (JX s.reads ⟨g,0,(Bx m.words g 0).ver⟩) (Bx m.words g 0).val)) ⟨s.id,s.label,0,(Bx m.words g 0).val⟩):=by
   unfold Fg
   rw [if_pos hst]
   unfold Sj
   rw [hpc,Int.toNat_natCast,hi]
   simp only [rdJ,if_true,hlab,hu]
   unfold Qt
   have hz:=PF g 0
   rw [hwr]
   simp only [Bs,Bool.false_eq_true,if_false,hgood,true_and]
   rw [if_pos (by rw [hw];exact hz.2),hlab]
  rw [hrun] at h2
  have hA:=Option.some.inj h2
  refine ⟨h3,by rw [← hA,Dj];exact hw,by rw [← hA,CZ];simpa [AA] using hlen,Cp s (rdJ g) (JX s.reads ⟨g,0,(Bx m.words g 0).ver⟩) (Bx m.words g 0).val,by rw [← hA,CZ];exact List.getElem?_set_self (by omega),hst,by simp only [Cp,hpc];omega,hlab,hcl,hpr,hwr,?_⟩
  intro r hr
  simp only [Cp,JX] at hr
  split at hr
  ·exact hrd r hr
  ·rcases List.mem_append.1 hr with hr | hr
   ·exact hrd r hr
   ·simp only [List.mem_singleton] at hr
    rw [hr];simp only;rw [hw];exact (PF g 0).1
 ·intro he
  have hu:AG g l=false:=by rw [hun];simpa using he
  refine ⟨by rw [hneeds,hu];rfl,?_⟩
  obtain ⟨A,h1,h2,h3,t,h4⟩:=Hy (k:=1) hs inv
  have hc3:AG (orI l g) 3=true:=by rcases FI hl with rfl | rfl | rfl | rfl<;>rcases FI hg with rfl | rfl | rfl | rfl<;>decide
  have hd:Bn m 1=(upM m 1 s (orI l g),0):=by
   unfold Bn;rw [hcur]
   simp only [rdJ,if_true,hlab,hu,hcl,hc3,Bool.false_eq_true,if_false]
   unfold upM;rw [hlab,hcl];rfl
  have hrun:Fg m 1 s=some (upM m 1 s (orI l g)):=by
   unfold Fg
   rw [if_pos hst]
   unfold Sj
   rw [hpc,Int.toNat_natCast,hi]
   simp only [rdJ,if_true,hlab,hu,Bool.false_eq_true,if_false]
   unfold Qv
   simp only [hlab,hcl,hc3,if_true]
  rw [hrun] at h2
  have hA:=Option.some.inj h2
  refine ⟨A,by rw [hd,hA],h3,by rw [← hA,RO];exact hw,by rw [← hA,LR];simpa using hlen,{ s with label:=orI l g },by rw [← hA,LR];exact List.getElem?_set_self (by omega),hst,hpc,rfl,hcl,hpr,hwr,hrd⟩
end Ve
