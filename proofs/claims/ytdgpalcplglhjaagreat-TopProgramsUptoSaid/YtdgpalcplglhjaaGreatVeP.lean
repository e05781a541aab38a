/- Models of scripts, and how the evaluator's values stand for them; new machines. -/
import Derived.Test.YtdgpalcplglhjaaGreatVeM
import Derived.Test.YtdgpalcplglhjaaGreatVeN
set_option linter.all false
set_option linter.unusedSectionVars false
namespace Ve
open Go
def eSt (p:Bool) (s:Ck):V:=.agg [iV s.id,iV s.label,iV s.clear,eIs p s.prog]
abbrev uP (p:Bool) (l:List Ck):V:=.isl p false 4 (l.map (eSt p))
abbrev eNs (p:Bool) (l:List Int):V:=.isl p false 1 (l.map iV)
abbrev nC (p:Bool) (l:List BW):V:=.isl p false 2 (l.map eSl)
abbrev cSc (p:Bool) (s:AQ):List V:=[eNs p s.words.a0,eNs p s.words.a1,eNs p s.words.a2,eNs p s.words.a3,iV s.ceil,uP p s.starts,nC p s.slots]
abbrev eSc (p:Bool) (s:AQ):V:=.agg (cSc p s)
structure JW (s:AQ):Prop where
 b0:s.words.a0.length≤1048576
 b1:s.words.a1.length≤1048576
 b2:s.words.a2.length≤1048576
 b3:s.words.a3.length≤1048576
 bst:s.starts.length≤1048576
 bsl:s.slots.length≤1048576
 p:∀ x∈s.starts,x.prog.length≤1048576
def Gl (v:Int):Al:=⟨v,0,0⟩
def Up (l:List Int):Bool:=decide (l.length≤4)&&l.all (fun v=>inR v 255)
def EP (ws:A4 (List Int)):Bool:=ws.all Up
def FH (ws:A4 (List Int)):A4 (List Al):=⟨ws.a0.map Gl,ws.a1.map Gl,ws.a2.map Gl,ws.a3.map Gl⟩
def Jm (ws:A4 (List Int)):A4 (List Al) × Int:=if EP ws=true then (FH ws,0) else (⟨[],[],[],[]⟩,400)
def DJ (s:Ck):Af:=⟨s.id,s.label,s.clear,s.prog,0,0,⟨0,0,0,0⟩,[],[],0,0,0,0,0⟩
def DV (s:Ck):Bool:=Cm s.id s.label s.clear s.prog
def MU (s:Ck):Af × Int:=if DV s=true then (DJ s,0) else (DJ ⟨0,0,0,[]⟩,1100)
def Ce (s:AQ):Ad:=⟨FH s.words,⟨0,0,0,0⟩,s.ceil,s.starts.map DJ,[]⟩
def Ea (s:AQ):Ad × Int:=if (EP s.words&&s.starts.all DV&&Ei (Ce s))=true then (Ce s,0) else (AN,1200)
theorem Mt {s:AQ} (h:JW s):SmM (Ce s):=by
 obtain ⟨b0,b1,b2,b3,bst,bsl,p⟩:=h
 refine ⟨by simp [Ce,FH];omega,by simp [Ce,FH];omega,by simp [Ce,FH];omega,by simp [Ce,FH];omega,by simp [Ce];omega,by simp [Ce],?_⟩
 intro x hx
 simp only [Ce,List.mem_map] at hx
 obtain ⟨y,hy,rfl⟩:=hx
 have:=p y hy
 exact ⟨by simp only [DJ];omega,by simp [DJ],by simp [DJ]⟩
end Ve
namespace Ve
open Go
theorem JC {ws ws':A4 (List Al)} (h0:ws'.a0.length=ws.a0.length) (h1:ws'.a1.length=ws.a1.length) (h2:ws'.a2.length=ws.a2.length) (h3:ws'.a3.length=ws.a3.length) (l i:Int):AW ws' l i=AW ws l i:=by
 have:(ws'.get l).length=(ws.get l).length:=by
  simp only [A4.get];split
  ·exact h0
  ·split
   ·exact h1
   ·split
    ·exact h2
    ·exact h3
 simp only [AW,this]
theorem Io {ws ws':A4 (List Al)} (h:∀ l i,AW ws' l i=AW ws l i) (s:Af):AY ws' s=AY ws s:=by
 simp only [AY,AD,Cc,Cr,h]
def UR:Option Int→List Int→Bool
 | _,[]=>true
 | none,s::t=>UR (some s) t
 | some v,s::t=>decide (v<s)&&UR (some s) t
theorem Lb:∀ (l:List Af) (o:Option Int),EM o l=UR o (l.map (·.id))
 | [],o=>by cases o<;>rfl
 | a::l,none=>by simp only [EM,List.map_cons,UR];exact Lb l _
 | a::l,some v=>by simp only [EM,List.map_cons,UR];rw [Lb l]
theorem UK {l:List Af} {k:Nat} {s s':Af} (hs:l[k]?=some s) (h:s'.id=s.id):(l.set k s').map (·.id)=l.map (·.id):=by
 rw [List.map_set,h]
 apply List.ext_getElem?
 intro i
 rw [List.getElem?_set]
 split
 ·rename_i e;subst e
  have hl:=Au hs
  have:l[k]=s:=by rw [List.getElem?_eq_getElem hl] at hs;exact Option.some.inj hs
  simp [hl,this]
 ·rfl
structure SP (ws:A4 (List Al)) (s:Af):Prop where
 id:inR s.id 254=true
 label:inR s.label 3=true
 clear:inR s.clear 3=true
 AG:AG s.label s.clear=true
 prog:Dn s.prog=true
 reads:AJ s.reads=true
 writes:AS s.writes=true
 rthere:AD ws s.reads=true
 wthere:Cc ws s.writes=true
 pthere:Cr ws s.prog=true
 pc:inR s.pc s.prog.length=true
 at_:inR s.at_ s.writes.length=true
 step:inR s.step 6=true
 result:inR s.result 5=true
 regs:CX s.regs=true
 stamp:inR s.stamp 65535=true
 tries:inR s.tries 65535=true
 told:inR s.told 255=true
theorem sp (ws:A4 (List Al)) (s:Af):AY ws s=true↔SP ws s:=by
 simp only [AY,Cm,Bool.and_eq_true]
 constructor
 ·rintro ⟨⟨⟨⟨⟨⟨⟨⟨⟨⟨a,b⟩,c⟩,d⟩,e⟩,⟨⟨⟨f,g⟩,h⟩,i⟩,j⟩,⟨⟨k,l⟩,m⟩,n⟩,o⟩,p⟩,q⟩,r⟩
  exact ⟨a,b,c,d,e,f,g,h,i,j,k,l,m,n,o,p,q,r⟩
 ·rintro ⟨a,b,c,d,e,f,g,h,i,j,k,l,m,n,o,p,q,r⟩
  exact ⟨⟨⟨⟨⟨⟨⟨⟨⟨⟨a,b⟩,c⟩,d⟩,e⟩,⟨⟨⟨f,g⟩,h⟩,i⟩,j⟩,⟨⟨k,l⟩,m⟩,n⟩,o⟩,p⟩,q⟩,r⟩
structure Bo (m:Ad):Prop where
 arena:AP m.words=true
 ceil:inR m.ceil 65535=true
 clocks:m.clocks.all (fun c=>inR c m.ceil)=true
 sl:m.sess.length≤4
 tl:m.trace.length≤512
 ids:UR none (m.sess.map (·.id))=true
 sess:∀ s∈m.sess,AY m.words s=true
 trace:∀ e∈m.trace,inR e.label 3=true
theorem UJ (m:Ad):Ei m=true↔Bo m:=by
 simp only [Ei,Bool.and_eq_true,decide_eq_true_eq,List.all_eq_true,Lb]
 constructor
 ·rintro ⟨⟨⟨⟨⟨⟨⟨a,b⟩,c⟩,d⟩,e⟩,f⟩,g⟩,h⟩
  exact ⟨a,b,c,d,e,f,g,h⟩
 ·rintro ⟨a,b,c,d,e,f,g,h⟩
  exact ⟨⟨⟨⟨⟨⟨⟨a,b⟩,c⟩,d⟩,e⟩,f⟩,g⟩,h⟩
theorem Jb {m:Ad} (h:Bo m) {e:Bl} (he:inR e.label 3=true):Bo (AT m e):=by
 unfold AT
 split
 ·rename_i hl
  refine ⟨h.arena,h.ceil,h.clocks,h.sl,by simp;omega,h.ids,h.sess,?_⟩
  intro x hx
  rcases List.mem_append.1 hx with hx | hx
  ·exact h.trace x hx
  ·simp only [List.mem_singleton] at hx;subst hx;exact he
 ·exact h
theorem Hw {m:Ad} (h:Bo m) {k:Nat} {s s':Af} (hs:m.sess[k]?=some s) (hid:s'.id=s.id) (hm:SP m.words s'):Bo (AA m k s'):=by
 refine ⟨h.arena,h.ceil,h.clocks,by simpa [AA] using h.sl,h.tl,?_,?_,h.trace⟩
 ·simp only [AA];rw [UK hs hid];exact h.ids
 ·intro x hx
  simp only [AA] at hx
  rcases List.mem_or_eq_of_mem_set hx with hx | rfl
  ·exact h.sess x hx
  ·exact (sp _ _).2 hm
theorem PE {w:Al} (c:Int) (h:AK w=true):AK (Ap c w)=true:=by
 unfold Ap
 split
 ·simp only [AK,Bool.and_eq_true] at h ⊢
  exact ⟨h.1,by decide⟩
 ·exact h
theorem GZ {l:List Al} (c:Int) (h:Co l=true):Co (l.map (Ap c))=true:=by
 simp only [Co,Bool.and_eq_true,List.length_map,List.all_eq_true] at h ⊢
 refine ⟨h.1,?_⟩
 intro x hx
 obtain ⟨y,hy,rfl⟩:=List.mem_map.1 hx
 exact PE c (h.2 y hy)
theorem MY {m:Ad} (h:Bo m) {ws:A4 (List Al)} (ha:AP ws=true) (h0:ws.a0.length=m.words.a0.length) (h1:ws.a1.length=m.words.a1.length) (h2:ws.a2.length=m.words.a2.length) (h3:ws.a3.length=m.words.a3.length):Bo { m with words:=ws } :=
 ⟨ha,h.ceil,h.clocks,h.sl,h.tl,h.ids,fun s hs=>by rw [Io (fun l i=>JC h0 h1 h2 h3 l i)];exact h.sess s hs,h.trace⟩
theorem OB {m:Ad} (h:Bo m) (c:Int):Bo (BV c m):=by
 refine MY h ?_ (by simp) (by simp) (by simp) (by simp)
 have:=h.arena
 simp only [AP,A4.all,Bool.and_eq_true] at this ⊢
 exact ⟨⟨⟨GZ c this.1.1.1,GZ c this.1.1.2⟩,GZ c this.1.2⟩,GZ c this.2⟩
theorem Yg:AJ []=true:=by decide
theorem Mm:AS []=true:=by decide
theorem VB {ws:A4 (List Al)} {s:Af} (h:SP ws s):SP ws (Du s) :=
 { h with reads:=Yg,writes:=Mm,rthere:=rfl,wthere:=rfl,at_:=by simp [Du,inR],stamp:=by rfl }
theorem AR {x c:Int}:inR x c=true↔0≤x∧x≤c:=by simp [inR]
theorem Bt {a:Int} (h1:0≤a) (h2:a≤9000000000000000000):IntKind.wrap .i64 a=a:=EH (by omega) (by omega)
theorem kY {t:Int} (h:inR t 65535=true):inR (Jn t) 65535=true:=by
 rw [AR] at h
 unfold Jn
 rw [Bt (by omega) (by omega)]
 split
 ·decide
 ·rw [AR];omega
theorem ZG {ws:A4 (List Al)} {s:Af} (h:SP ws s):SP ws (CT s) :=
 { VB h with pc:=by simp [CT,inR],regs:=by rfl,step:=by rfl,tries:=kY h.tries }
theorem pY {ws:A4 (List Al)} {s:Af} (h:SP ws s) {r t:Int} (hr:inR r 5=true) (ht:inR t 255=true):SP ws (FZ s r t) :=
 { VB h with step:=by rfl,result:=hr,told:=ht }
theorem VA {m:Ad} {s:Af} (c:Int):SP (BV c m).words s↔SP m.words s:=by
 rw [← sp,← sp,Io (ws:=m.words) (ws':=(BV c m).words) (fun l i=>JC (by simp [BV]) (by simp [BV]) (by simp [BV]) (by simp [BV]) l i)]
theorem Qo {m:Ad} {k:Nat} (h:Bo m) (hk:k<m.sess.length):Bq m k=true:=by
 simp only [Bq,Bool.and_eq_true,decide_eq_true_eq]
 exact ⟨⟨(UJ m).2 h,by omega⟩,by omega⟩
theorem Ft (m:Ad) (at_:Int):Bq m at_=false∨∃ k s,at_=(k:Nat)∧m.sess[k]?=some s∧Bo m∧SP m.words s:=by
 cases h:Bq m at_ with
 | false=>exact .inl rfl
 | true =>
  obtain ⟨s,k,rfl,hs,hk⟩:=ID h
  have hm:=dR h
  exact .inr ⟨k,s,rfl,hs,(UJ m).1 hm,(sp _ _).1 (cL hm hs)⟩
def JU (m:Ad) (k:Nat) (s:Af) (kind:Int):Ad:=AT (AA (BV (s.id+1) m) k (CT s)) ⟨s.id,s.label,kind,Jn s.tries⟩
def EN (m:Ad) (k:Nat) (s:Af) (r t:Int):Ad:=AT (AA (BV (s.id+1) m) k (FZ s r t)) ⟨s.id,s.label,6,r⟩
theorem Wn {i:Int} (h:inR i 254=true):IntKind.wrap .i64 (i+1)=i+1:=by
 rw [AR] at h;exact Bt (by omega) (by omega)
theorem FR {m:Ad} {k:Nat} {s:Af} (hs:m.sess[k]?=some s) (hm:Bo m) {kind:Int} (hk:kind=3∨kind=5):By m k kind=(JU m k s kind,0):=by
 have h:=(sp _ _).1 (hm.sess s (List.mem_of_getElem? hs))
 have h1:(Bq m k&&(decide (kind=3)||decide (kind=5)))=true:=by
  rw [Qo hm (Au hs)];rcases hk with rfl | rfl<;>rfl
 simp only [By,h1,if_true,Int.toNat_natCast,hs,JU,Wn h.id]
theorem FY {m:Ad} {k:Nat} {s:Af} (hs:m.sess[k]?=some s) (hm:Bo m) {r t:Int} (hr:inR r 5=true) (ht:inR t 255=true):CL m k r t=(EN m k s r t,0):=by
 have h:=(sp _ _).1 (hm.sess s (List.mem_of_getElem? hs))
 have h1:(Bq m k&&inR r 5&&inR t 255)=true:=by
  rw [Qo hm (Au hs),hr,ht];rfl
 simp only [CL,h1,if_true,Int.toNat_natCast,hs,EN,Wn h.id]
theorem CZ (m:Ad) (e:Bl):(AT m e).sess=m.sess:=by unfold AT;split<;>rfl
theorem Dj (m:Ad) (e:Bl):(AT m e).words=m.words:=by unfold AT;split<;>rfl
theorem Ih (m:Ad) (e:Bl):(AT m e).clocks=m.clocks:=by unfold AT;split<;>rfl
theorem Fl (m:Ad) (e:Bl):(AT m e).ceil=m.ceil:=by unfold AT;split<;>rfl
theorem TY (m:Ad) (e:Bl):(AT m e).trace=if m.trace.length<512 then m.trace++[e] else m.trace:=by unfold AT;split<;>rfl
theorem LU {m:Ad} {k:Nat} {s s':Af} (hs:m.sess[k]?=some s):(AA m k s').sess[k]?=some s':=by
 simp only [AA];exact List.getElem?_set_self (Au hs)
theorem TO {m:Ad} {k:Nat} {s:Af} (hs:m.sess[k]?=some s) (hm:Bo m) (kind:Int):Bo (JU m k s kind):=by
 have h:=(sp _ _).1 (hm.sess s (List.mem_of_getElem? hs))
 exact Jb (Hw (OB hm _) (s:=s) (s':=CT s) hs rfl (VA _ |>.2 (ZG h))) h.label
theorem Pf {m:Ad} {k:Nat} {s:Af} (hs:m.sess[k]?=some s) (hm:Bo m) {r t:Int} (hr:inR r 5=true) (ht:inR t 255=true):Bo (EN m k s r t):=by
 have h:=(sp _ _).1 (hm.sess s (List.mem_of_getElem? hs))
 exact Jb (Hw (OB hm _) (s:=s) (s':=FZ s r t) hs rfl (VA _ |>.2 (pY h hr ht))) h.label
theorem PA {m:Ad} {k:Nat} {s:Af} (kind:Int):(JU m k s kind).sess=m.sess.set k (CT s):=by rw [JU,CZ];rfl
theorem JO {m:Ad} {k:Nat} {s:Af} (r t:Int):(EN m k s r t).sess=m.sess.set k (FZ s r t):=by rw [EN,CZ];rfl
theorem Vt {m:Ad} {k:Nat} {s:Af} (kind:Int):(JU m k s kind).words=(BV (s.id+1) m).words:=by rw [JU,Dj];rfl
theorem Zj {m:Ad} {k:Nat} {s:Af} (kind:Int):(JU m k s kind).ceil=m.ceil:=by rw [JU,Fl];rfl
theorem LH {m:Ad} {k:Nat} {s:Af} (r t:Int):(EN m k s r t).words=(BV (s.id+1) m).words:=by rw [EN,Dj];rfl
theorem UX {m:Ad} {k:Nat} {s:Af} (r t:Int):(EN m k s r t).ceil=m.ceil:=by rw [EN,Fl];rfl
end Ve
namespace Ve
open Go
theorem Mi {L:Lay} {t:TypeId} {k:IntKind} {a b:Int} (h:b≠0):BJ L .rem t (.lit (.int k a)) (.lit (.int k b))=some (.lit (.int k (a.tmod b))):=by
 simp [BJ,binOp,Op.intDiv,h,HN];rfl
theorem nY {L:Lay} {t:TypeId} {k j:IntKind} {a b:Int} (h:¬ b<0):BJ L .shr t (.lit (.int k a)) (.lit (.int j b))=some (.lit (.int k (a.fdiv (2 ^ min b.toNat k.bits)))):=by
 simp [BJ,binOp,Op.shift,h,HN];rfl
def uW (a:Int):Int:=IntKind.wrap .u64 a
theorem pT (a:Int):0≤uW a:=by
 have e1:(2 ^ IntKind.bits .u64:Int)=18446744073709551616:=by decide
 simp only [uW,IntKind.wrap,IntKind.signed,Bool.false_and,Bool.false_eq_true,if_false,e1]
 omega
theorem rF {a b:Int} (ha:0≤a) (hb:0<b):0≤a.tmod b∧a.tmod b≤b - 1:=by
 rw [Int.tmod_eq_emod_of_nonneg ha]
 have h1:=Int.emod_nonneg a (show b≠0 by omega)
 have h2:=Int.emod_lt_of_pos a hb
 omega
end Ve
namespace Ve
open Go
theorem lB (a:Int) (c:Nat) (hc:c≤1000000):inR (Ia a c) c=true:=by
 have h:(BitVec.ofInt 64 a &&& BitVec.ofInt 64 (c:Int)).toNat≤c:=by
  have:(BitVec.ofInt 64 (c:Int)).toNat=c:=by
   rw [BitVec.toNat_ofInt,show ((2 ^ 64:Nat):Int)=18446744073709551616 from rfl]
   omega
  rw [BitVec.toNat_and,this];exact Nat.and_le_right
 unfold Ia
 rw [Bt (by omega) (by omega),AR]
 omega
theorem mC {m:Ad} {at_:Int} (h:at_<0∨(m.sess.length:Int)≤at_):Bq m at_=false:=by
 simp only [Bq,Bool.and_eq_false_iff,decide_eq_false_iff_not]
 rcases h with h | h
 ·exact .inl (.inr (by omega))
 ·exact .inr (by omega)
end Ve
namespace Ve
open Go
abbrev plW (w:Ak):Int:=AC w.level w.index
theorem KQ:∀ (l:List Ak) (o:Option Ak),AV o l=true→(∀ w∈l,Az w=true)∧l.Pairwise (fun a b=>plW a<plW b)∧(∀ v,o=some v→∀ w∈l,plW v<plW w)
 | [],o,_=>⟨by simp,List.Pairwise.nil,by simp⟩
 | a::l,none,h=>by
  simp only [AV,Bool.and_eq_true] at h
  obtain ⟨h1,h2,h3⟩:=KQ l _ h.2
  refine ⟨fun w hw=>?_,List.pairwise_cons.2 ⟨fun w hw=>h3 a rfl w hw,h2⟩,fun v hv=>by cases hv⟩
  rcases List.mem_cons.1 hw with rfl | hw
  ·exact h.1
  ·exact h1 w hw
 | a::l,some v,h=>by
  simp only [AV,Bool.and_eq_true,decide_eq_true_eq] at h
  obtain ⟨h1,h2,h3⟩:=KQ l _ h.2
  refine ⟨fun w hw=>?_,List.pairwise_cons.2 ⟨fun w hw=>h3 a rfl w hw,h2⟩,fun v' hv w hw=>?_⟩
  ·rcases List.mem_cons.1 hw with rfl | hw
   ·exact h.1.1
   ·exact h1 w hw
  ·cases hv
   rcases List.mem_cons.1 hw with rfl | hw
   ·exact h.1.2
   ·have:=h3 a rfl w hw
    have:=h.1.2
    simp only [plW] at *
    omega
theorem Ci {l:List Ak} (h:AS l=true):(∀ w∈l,Az w=true)∧l.Pairwise (fun a b=>plW a<plW b)∧l.length≤16:=by
 simp only [AS,Bool.and_eq_true,decide_eq_true_eq] at h
 obtain ⟨h1,h2,_⟩:=KQ l none h.1
 exact ⟨h1,h2,h.2⟩
theorem HH:∀ (l:List Ak) (o:Option Ak),(∀ w∈l,Az w=true)→l.Pairwise (fun a b=>plW a<plW b)→(∀ v,o=some v→∀ w∈l,plW v<plW w)→AV o l=true
 | [],o,_,_,_=>by cases o<;>rfl
 | a::l,none,h1,h2,h3=>by
  obtain ⟨g1,g2⟩:=List.pairwise_cons.1 h2
  simp only [AV,Bool.and_eq_true]
  exact ⟨h1 a (by simp),HH l _ (fun w hw=>h1 w (by simp [hw])) g2 (fun v hv w hw=>by cases hv;exact g1 w hw)⟩
 | a::l,some v,h1,h2,h3=>by
  obtain ⟨g1,g2⟩:=List.pairwise_cons.1 h2
  simp only [AV,Bool.and_eq_true,decide_eq_true_eq]
  exact ⟨⟨h1 a (by simp),h3 v rfl a (by simp)⟩,HH l _ (fun w hw=>h1 w (by simp [hw])) g2 (fun v hv w hw=>by cases hv;exact g1 w hw)⟩
def geW (w x:Ak):Bool:=decide (plW w≤plW x)
def GA (w:Ak) (l:List Ak):List Ak:=if l.any (geW w)=true then CW w l else l
theorem Me (w:Ak) (r:List Ak):∀ (l:List Ak),l.any (geW w)=false→CW w (l++r)=l++CW w r
 | [],_=>rfl
 | a::l,h=>by
  simp only [List.any_cons,Bool.or_eq_false_iff,geW,decide_eq_false_iff_not] at h
  simp only [List.cons_append,CW]
  rw [if_pos (by simp only [plW] at h;omega),Me w r l (by simpa [geW] using h.2)]
theorem Tc (w x:Ak):∀ (l:List Ak),l.any (geW w)=true→CW w (l++[x])=CW w l++[x]
 | [],h=>by simp at h
 | a::l,h=>by
  simp only [List.cons_append,CW]
  split
  ·rename_i hlt
   have:l.any (geW w)=true:=by
    simp only [List.any_cons,Bool.or_eq_true] at h
    rcases h with h | h
    ·simp only [geW,decide_eq_true_eq,plW] at h;omega
    ·exact h
   rw [Tc w x l this];rfl
  ·split<;>rfl
theorem SC {w x:Ak} {l:List Ak} (h:l.any (geW w)=false) (hx:plW x<plW w):GA w (l++[x])=l++[x]∧(l++[x]).any (geW w)=false:=by
 have:(l++[x]).any (geW w)=false:=by
  rw [List.any_append,h,Bool.false_or]
  simp only [List.any_cons,List.any_nil,Bool.or_false,geW,decide_eq_false_iff_not];omega
 exact ⟨by simp only [GA,this];rfl,this⟩
theorem VO {w x:Ak} {l:List Ak} (h:l.any (geW w)=false) (hx:plW w<plW x):GA w (l++[x])=(l++[w])++[x]∧(l++[x]).any (geW w)=true:=by
 have:(l++[x]).any (geW w)=true:=by
  rw [List.any_append,h,Bool.false_or]
  simp only [List.any_cons,List.any_nil,Bool.or_false,geW,decide_eq_true_eq];omega
 refine ⟨?_,this⟩
 simp only [GA,this,if_true,Me w [x] l h,CW]
 rw [if_neg (by simp only [plW] at hx;omega),if_neg (by simp only [plW] at hx;omega)]
 simp
theorem SD {w x:Ak} {l:List Ak} (h:l.any (geW w)=false) (hx:plW x=plW w):GA w (l++[x])=l++[w]∧(l++[x]).any (geW w)=true:=by
 have:(l++[x]).any (geW w)=true:=by
  rw [List.any_append,h,Bool.false_or]
  simp only [List.any_cons,List.any_nil,Bool.or_false,geW,decide_eq_true_eq];omega
 refine ⟨?_,this⟩
 simp only [GA,this,if_true,Me w [x] l h,CW]
 rw [if_neg (by simp only [plW] at hx;omega),if_pos (by simp only [plW] at hx;omega)]
theorem bJ {w x:Ak} {l:List Ak} (h:l.any (geW w)=true):GA w (l++[x])=GA w l++[x]∧(l++[x]).any (geW w)=true:=by
 have:(l++[x]).any (geW w)=true:=by rw [List.any_append,h,Bool.true_or]
 exact ⟨by simp only [GA,this,h,if_true,Tc w x l h],this⟩
theorem kF {w:Ak} {l:List Ak}:CW w l=if l.any (geW w)=true then GA w l else l++[w]:=by
 split
 ·rename_i h;simp only [GA,h,if_true]
 ·rename_i h
  have:=Me w [] l (by simpa using h)
  simpa [CW] using this
theorem vQ {w x:Ak} {l:List Ak} (h:l.any (geW w)=true) (hs:∀ y∈l,plW y<plW x):plW w<plW x:=by
 obtain ⟨y,hy,hge⟩:=List.any_eq_true.1 h
 simp only [geW,decide_eq_true_eq] at hge
 have:=hs y hy
 omega
theorem kE (w:Ak) (l:List Ak):(GA w l).length≤l.length+1:=by
 have:∀ l:List Ak,(CW w l).length≤l.length+1:=by
  intro l
  induction l with
  | nil=>simp [CW]
  | cons a l ih =>
   simp only [CW]
   split
   ·simp only [List.length_cons];omega
   ·split<;>simp
 simp only [GA];split
 ·exact this l
 ·omega
end Ve
namespace Ve
open Go
inductive At (m:Ad) (at_:Int):Prop
 | no (h:Bq m at_=false)
 | off (k:Nat) (s:Af) (e:at_=(k:Nat)) (hs:m.sess[k]?=some s) (hM:Bo m) (hS:SP m.words s) (hst:s.step≠0)
 | fin (k:Nat) (s:Af) (e:at_=(k:Nat)) (hs:m.sess[k]?=some s) (hM:Bo m) (hS:SP m.words s) (hst:s.step=0) (hp:s.pc=(s.prog.length:Int))
 | on (k n:Nat) (s:Af) (i:Av) (e:at_=(k:Nat)) (hs:m.sess[k]?=some s) (hM:Bo m) (hS:SP m.words s) (hst:s.step=0) (hp:s.pc=(n:Int)) (hn:n<s.prog.length) (hi:s.prog[n]?=some i)
theorem DS (m:Ad) (at_:Int):At m at_:=by
 rcases Ft m at_ with h | ⟨k,s,e,hs,hM,hS⟩
 ·exact .no h
 ·by_cases hst:s.step=0
  ·have hp:=AR.1 hS.pc
   by_cases hpl:s.pc=(s.prog.length:Int)
   ·exact .fin k s e hs hM hS hst hpl
   ·have hn:s.pc.toNat<s.prog.length:=by omega
    exact .on k s.pc.toNat s s.prog[s.pc.toNat] e hs hM hS hst (by omega) hn (by simp [hn])
  ·exact .off k s e hs hM hS hst
theorem Bf {m:Ad} {k:Nat} {s:Af} (hs:m.sess[k]?=some s) (hM:Bo m):Bq m k=true:=Qo hM (Au hs)
theorem Ga {m:Ad} {at_:Int} (h:Bq m at_=false):CA m at_=none:=by simp [CA,h]
theorem CC {m:Ad} {k:Nat} {s:Af} (hs:m.sess[k]?=some s) (hM:Bo m) (h:s.step≠0):CA m k=none:=by
 simp only [CA,Bf hs hM,if_true,Int.toNat_natCast,hs,h,if_false]
theorem EB {m:Ad} {k:Nat} {s:Af} (hs:m.sess[k]?=some s) (hM:Bo m) (h:s.step=0) (hp:s.pc=(s.prog.length:Int)):CA m k=none:=by
 simp only [CA,Bf hs hM,if_true,Int.toNat_natCast,hs,h,hp,List.getElem?_eq_none (Nat.le_refl _)]
theorem Dp {m:Ad} {k n:Nat} {s:Af} {i:Av} (hs:m.sess[k]?=some s) (hM:Bo m) (h:s.step=0) (hp:s.pc=(n:Int)) (hi:s.prog[n]?=some i):CA m k=some (s,i):=by
 simp only [CA,Bf hs hM,if_true,Int.toNat_natCast,hs,h,hp,hi]
theorem VJ:∀ (l:List Av) (n:Int) (j:Int),BP n j l=true→∀ (k:Nat) (i:Av),l[k]?=some i→Bd i=true∧(i.code=4→j+k<i.b∧i.b≤n)
 | [],n,j,_,k,i,h=>by simp at h
 | a::l,n,j,hg,k,i,h=>by
  simp only [BP,Bool.and_eq_true,Bool.not_eq_true',Bool.and_eq_false_iff,Bool.or_eq_false_iff,decide_eq_false_iff_not] at hg
  cases k with
  | zero =>
   simp only [List.getElem?_cons_zero,Option.some.injEq] at h
   subst h
   refine ⟨hg.1.1,fun hc=>?_⟩
   rcases hg.1.2 with h | h
   ·exact absurd hc h
   ·simp only [Int.natCast_zero];omega
  | succ k =>
   have:=VJ l n (j+1) hg.2 k i (by simpa using h)
   refine ⟨this.1,fun hc=>?_⟩
   have:=this.2 hc
   omega
theorem Dk {ws:A4 (List Al)} {s:Af} (h:SP ws s) {n:Nat} {i:Av} (hi:s.prog[n]?=some i):Bd i=true∧(i.code=4→(n:Int)<i.b∧i.b≤s.prog.length)∧((i.code=2∨i.code=3)→AW ws i.b i.c=true):=by
 have hp:=h.prog
 simp only [Dn,Bool.and_eq_true] at hp
 obtain ⟨h1,h2⟩:=VJ _ _ _ hp.1 n i hi
 refine ⟨h1,fun hc=>by have:=h2 hc;omega,fun hc=>?_⟩
 have:=h.pthere
 simp only [Cr,List.all_eq_true] at this
 have:=this i (List.mem_of_getElem? hi)
 simp only [Bool.or_eq_true,Bool.not_eq_true',Gx,Bool.or_eq_false_iff,decide_eq_false_iff_not] at this
 rcases this with h' | h'
 ·exact absurd hc (by rintro (hc | hc);exact h'.1 hc;exact h'.2 hc)
 ·exact h'
theorem Je {i:Av} (h:Bd i=true):i.code=0∨i.code=1∨i.code=2∨i.code=3∨i.code=4∨i.code=5∨i.code=6:=by
 unfold Bd at h
 split at h
 ·simp [*]
 split at h
 ·simp [*]
 split at h
 ·rename_i h';rcases h' with h' | h'<;>simp [h']
 split at h
 ·simp [*]
 split at h
 ·simp [*]
 split at h
 ·simp [*]
 ·cases h
theorem EV {i:Av} (h:Bd i=true) (hc:i.code≠5∧i.code≠6):inR i.a 3=true:=by
 unfold Bd at h
 split at h
 ·simp only [Bool.and_eq_true] at h;exact h.1.1
 split at h
 ·simp only [Bool.and_eq_true] at h;exact h.1.1
 split at h
 ·simp only [Bool.and_eq_true] at h;exact h.1.1
 split at h
 ·simp only [Bool.and_eq_true] at h;exact h.1.1
 split at h
 ·rename_i h5;exact absurd h5 hc.1
 split at h
 ·rename_i h5;exact absurd h5 hc.2
 ·cases h
theorem KZ {i:Av} (h:Bd i=true) (hc:i.code=6):inR i.a 255=true:=by
 unfold Bd at h
 simp only [hc] at h
 simp only [show ((6:Int)=0)=False by decide,show ((6:Int)=1)=False by decide,show ((6:Int)=2∨(6:Int)=3)=False by decide,show ((6:Int)=4)=False by decide,show ((6:Int)=5)=False by decide,if_false,if_true,Bool.and_eq_true] at h
 exact h.1.1
theorem Dc {i:Av} (h:Bd i=true) (hc:i.code=2∨i.code=3):inR i.b 3=true∧inR i.c 3=true:=by
 unfold Bd at h
 have h0:¬ i.code=0:=by omega
 have h1:¬ i.code=1:=by omega
 simp only [h0,h1,if_false,hc,if_true,Bool.and_eq_true] at h
 exact ⟨h.1.2,h.2⟩
theorem Kx {i:Av} (h:Bd i=true) (hc:i.code=0):inR i.b 255=true:=by
 unfold Bd at h
 simp only [hc,if_true,Bool.and_eq_true] at h
 exact h.1.2
theorem Ky {i:Av} (h:Bd i=true) (hc:i.code=1):inR i.b 3=true:=by
 unfold Bd at h
 simp only [hc,show ((1:Int)=0)=False by decide,if_false,if_true,Bool.and_eq_true] at h
 exact h.1.2
inductive Lf (m:Ad) (at_ step:Int):Prop
 | no (h:Bq m at_=false)
 | off (k:Nat) (s:Af) (e:at_=(k:Nat)) (hs:m.sess[k]?=some s) (hM:Bo m) (hS:SP m.words s) (hst:s.step≠step)
 | fin (k:Nat) (s:Af) (e:at_=(k:Nat)) (hs:m.sess[k]?=some s) (hM:Bo m) (hS:SP m.words s) (hst:s.step=step) (hp:s.at_=(s.writes.length:Int))
 | on (k n:Nat) (s:Af) (w:Ak) (e:at_=(k:Nat)) (hs:m.sess[k]?=some s) (hM:Bo m) (hS:SP m.words s) (hst:s.step=step) (hp:s.at_=(n:Int)) (hn:n<s.writes.length) (hi:s.writes[n]?=some w)
theorem Hx (m:Ad) (at_ step:Int):Lf m at_ step:=by
 rcases Ft m at_ with h | ⟨k,s,e,hs,hM,hS⟩
 ·exact .no h
 ·by_cases hst:s.step=step
  ·have hp:=AR.1 hS.at_
   by_cases hpl:s.at_=(s.writes.length:Int)
   ·exact .fin k s e hs hM hS hst hpl
   ·have hn:s.at_.toNat<s.writes.length:=by omega
    exact .on k s.at_.toNat s s.writes[s.at_.toNat] e hs hM hS hst (by omega) hn (by simp [hn])
  ·exact .off k s e hs hM hS hst
theorem EC {m:Ad} {at_ st:Int} (h:Bq m at_=false):Gb m at_ st=none:=by simp [Gb,h]
theorem CM {m:Ad} {k:Nat} {s:Af} {st:Int} (hs:m.sess[k]?=some s) (hM:Bo m) (h:s.step≠st):Gb m k st=none:=by
 simp only [Gb,Bf hs hM,if_true,Int.toNat_natCast,hs,h,if_false]
theorem Cb {m:Ad} {k:Nat} {s:Af} {st:Int} (hs:m.sess[k]?=some s) (hM:Bo m) (h:s.step=st):Gb m k st=some s:=by
 simp only [Gb,Bf hs hM,if_true,Int.toNat_natCast,hs,h]
theorem Dy {m:Ad} {at_ st:Int} (h:Gb m at_ st=none):Er m at_ st=none:=by unfold Er;rw [h]
theorem IB {m:Ad} {k:Nat} {s:Af} {st:Int} (hs:m.sess[k]?=some s) (hM:Bo m) (h:s.step=st) (hp:s.at_=(s.writes.length:Int)):Er m k st=none:=by
 have h1:s.writes[s.at_.toNat]?=none:=by rw [hp];simp
 unfold Er;rw [Cb hs hM h];simp only [h1]
theorem Kr {m:Ad} {k n:Nat} {s:Af} {w:Ak} {st:Int} (hs:m.sess[k]?=some s) (hM:Bo m) (h:s.step=st) (hp:s.at_=(n:Int)) (hi:s.writes[n]?=some w):Er m k st=some (s,w):=by
 have h1:s.writes[s.at_.toNat]?=some w:=by rw [hp];simpa using hi
 unfold Er;rw [Cb hs hM h];simp only [h1]
theorem IX {ws:A4 (List Al)} {s:Af} (h:SP ws s) {n:Nat} {w:Ak} (hi:s.writes[n]?=some w):AW ws w.level w.index=true∧Az w=true:=by
 have h1:=h.wthere
 simp only [Cc,List.all_eq_true] at h1
 exact ⟨h1 w (List.mem_of_getElem? hi),(Ci h.writes).1 w (List.mem_of_getElem? hi)⟩
end Ve
namespace Ve
open Go
theorem Gk:∀ (n:Nat) (l:List Nat),l.Nodup→(∀ x∈l,x<n)→l.length≤n
 | 0,l,_,h=>by
  cases l with
  | nil=>simp
  | cons a l=>have:=h a (by simp);omega
 | n+1,l,hd,h=>by
  have h1:=Gk n (l.erase n) (hd.erase n) (fun x hx=>by
   have h2:=List.mem_of_mem_erase hx
   have h3:=h x h2
   have h4:x≠n:=by
    intro e;subst e
    exact absurd hx (by rw [hd.mem_erase_iff];simp)
   omega)
  rw [List.length_erase] at h1
  split at h1<;>omega
def plR (r:AO):Nat:=(4*r.level+r.index).toNat
theorem Sq:∀ (l pre:List AO),BS pre l=true→(∀ r∈l,Cw r=true)∧(l.Pairwise fun a b=>Cd b a=false)∧(∀ p∈pre,∀ r∈l,Cd r p=false)
 | [],pre,_=>⟨by simp,List.Pairwise.nil,by simp⟩
 | a::l,pre,h=>by
  simp only [BS,Bool.and_eq_true,Bool.not_eq_true'] at h
  obtain ⟨h1,h2,h3⟩:=Sq l _ h.2
  have hany:∀ p∈pre,Cd a p=false:=by
   intro p hp
   have:=List.any_eq_false.1 h.1.2 p hp
   simpa using this
  refine ⟨fun r hr=>?_,List.pairwise_cons.2 ⟨fun b hb=>h3 a (by simp) b hb,h2⟩,fun p hp r hr=>?_⟩
  ·rcases List.mem_cons.1 hr with rfl | hr
   ·exact h.1.1
   ·exact h1 r hr
  ·rcases List.mem_cons.1 hr with rfl | hr
   ·exact hany p hp
   ·exact h3 p (by simp [hp]) r hr
theorem Lt:∀ (l pre:List AO),(∀ r∈l,Cw r=true)→(l.Pairwise fun a b=>Cd b a=false)→(∀ p∈pre,∀ r∈l,Cd r p=false)→BS pre l=true
 | [],pre,_,_,_=>rfl
 | a::l,pre,h1,h2,h3=>by
  obtain ⟨g1,g2⟩:=List.pairwise_cons.1 h2
  simp only [BS,Bool.and_eq_true,Bool.not_eq_true']
  refine ⟨⟨h1 a (by simp),List.any_eq_false.2 (fun p hp=>by simpa using h3 p hp a (by simp))⟩,Lt l _ (fun r hr=>h1 r (by simp [hr])) g2 (fun p hp r hr=>?_)⟩
  rcases List.mem_append.1 hp with hp | hp
  ·exact h3 p hp r (by simp [hr])
  ·simp only [List.mem_singleton] at hp;subst hp;exact g1 r hr
theorem Os {l:List AO} (h:AJ l=true):(∀ r∈l,Cw r=true)∧(l.Pairwise fun a b=>Cd b a=false)∧l.length≤16:=by
 simp only [AJ,Bool.and_eq_true,decide_eq_true_eq] at h
 obtain ⟨h1,h2,_⟩:=Sq l [] h.1
 exact ⟨h1,h2,h.2⟩
theorem Uz {r:AO} (h:Cw r=true):plR r<16∧((plR r:Nat):Int)=4*r.level+r.index:=by
 simp only [Cw,Bool.and_eq_true,AR] at h
 unfold plR;omega
theorem aR {a b:AO} (ha:Cw a=true) (hb:Cw b=true) (h:Cd b a=false):plR a≠plR b:=by
 intro e
 have h1:=(Uz ha).2
 have h2:=(Uz hb).2
 simp only [Cw,Bool.and_eq_true,AR] at ha hb
 simp only [Cd,Bool.and_eq_false_iff,decide_eq_false_iff_not] at h
 omega
theorem PR {l:List AO} (h1:∀ r∈l,Cw r=true) (h2:l.Pairwise fun a b=>Cd b a=false):l.length≤16:=by
 have hd:(l.map plR).Nodup:=by
  rw [List.nodup_iff_pairwise_ne,List.pairwise_map]
  exact h2.imp_of_mem (fun ha hb h=>aR (h1 _ ha) (h1 _ hb) h)
 have:=Gk 16 (l.map plR) hd (fun x hx=>by
  obtain ⟨r,hr,rfl⟩:=List.mem_map.1 hx
  exact (Uz (h1 r hr)).1)
 simpa using this
theorem IZ {l:List AO} {r:AO} (h:AJ l=true) (hr:Cw r=true):(AX l r=(l,0)∧l.any (Cd r)=true)∨(AX l r=(l++[r],0)∧l.any (Cd r)=false∧AJ (l++[r])=true):=by
 obtain ⟨h1,h2,h3⟩:=Os h
 cases ha:l.any (Cd r) with
 | true=>exact .inl ⟨by simp only [AX,h,hr,ha,Bool.and_self,if_true],rfl⟩
 | false =>
  have g1:∀ x∈l++[r],Cw x=true:=by
   intro x hx
   rcases List.mem_append.1 hx with hx | hx
   ·exact h1 x hx
   ·simp only [List.mem_singleton] at hx;subst hx;exact hr
  have g2:(l++[r]).Pairwise fun a b=>Cd b a=false:=by
   rw [List.pairwise_append]
   refine ⟨h2,List.pairwise_singleton _ _,fun a ha' b hb=>?_⟩
   simp only [List.mem_singleton] at hb;subst hb
   have:=List.any_eq_false.1 ha a ha'
   simpa using this
  have g3:=PR g1 g2
  have hne:l.length≠16:=by simp at g3;omega
  refine .inr ⟨by simp only [AX,h,hr,ha,Bool.and_self,if_true,Bool.false_eq_true,if_false,hne],rfl,?_⟩
  simp only [AJ,Bool.and_eq_true,decide_eq_true_eq]
  exact ⟨Lt _ _ g1 g2 (by simp),g3⟩
end Ve
namespace Ve
open Go
theorem Ij {α:Type} (ws:A4 (List α)) (l i:Int) (w:α):(Ff ws l i w).a0.length=ws.a0.length∧(Ff ws l i w).a1.length=ws.a1.length∧(Ff ws l i w).a2.length=ws.a2.length∧(Ff ws l i w).a3.length=ws.a3.length:=by
 unfold Ff A4.set A4.get
 split
 ·simp
 ·split
  ·simp
  ·split<;>simp
theorem LY {l:List Al} (h:Co l=true) (i:Nat) {w:Al} (hw:AK w=true):Co (l.set i w)=true:=by
 simp only [Co,Bool.and_eq_true,List.length_set,List.all_eq_true] at h ⊢
 refine ⟨h.1,fun x hx=>?_⟩
 rcases List.mem_or_eq_of_mem_set hx with hx | rfl
 ·exact h.2 x hx
 ·exact hw
theorem Zi {ws:A4 (List Al)} (h:AP ws=true) (l i:Int) {w:Al} (hw:AK w=true):AP (Ff ws l i w)=true:=by
 simp only [AP,A4.all,Bool.and_eq_true] at h ⊢
 obtain ⟨⟨⟨h0,h1⟩,h2⟩,h3⟩:=h
 unfold Ff A4.set A4.get
 split
 ·exact ⟨⟨⟨LY h0 _ hw,h1⟩,h2⟩,h3⟩
 ·split
  ·exact ⟨⟨⟨h0,LY h1 _ hw⟩,h2⟩,h3⟩
  ·split
   ·exact ⟨⟨⟨h0,h1⟩,LY h2 _ hw⟩,h3⟩
   ·exact ⟨⟨⟨h0,h1⟩,h2⟩,LY h3 _ hw⟩
theorem RY {m:Ad} (hM:Bo m) (l i:Int) {w:Al} (hw:AK w=true):Bo (FC m l i w):=by
 obtain ⟨h0,h1,h2,h3⟩:=Ij m.words l i w
 exact MY hM (Zi hM.arena l i hw) h0 h1 h2 h3
theorem Vy {m:Ad} {s:Af} (l i:Int) (w:Al):SP (FC m l i w).words s↔SP m.words s:=by
 obtain ⟨h0,h1,h2,h3⟩:=Ij m.words l i w
 rw [← sp,← sp,Io (ws:=m.words) (ws':=(FC m l i w).words) (fun l i=>JC h0 h1 h2 h3 l i)]
theorem Of {m:Ad} {k n:Nat} {s:Af} {w:Ak} (hs:m.sess[k]?=some s) (hM:Bo m) (hS:SP m.words s) (hp:s.at_=(n:Int)) (hn:n<s.writes.length) (hv:inR w.val 255=true):Bo (BR m k s w):=by
 have hw:AK ⟨w.val,s.stamp,0⟩=true:=by simp only [AK,hv,hS.stamp];rfl
 refine Hw (RY hM _ _ hw) (s:=s) hs rfl ((Vy _ _ _).2 ?_)
 exact { hS with at_:=by rw [AR];show 0≤s.at_+1∧s.at_+1≤(s.writes.length:Int);omega }
def wL (last:Bool) (s:Af) (w:Ak) (g i:Int) (v:Al):Al :=
 if (decide (g=w.level)&&decide (i=w.index))=true then ⟨w.val,s.stamp,0⟩ else if (last&&decide (v.lock=s.id+1))=true then ⟨v.val,v.ver,0⟩ else v
theorem IH (ws:A4 (List Al)) (w:Ak) (x:Al) (g:Int) (i:Nat) (v:Al) (hg:inR g 3=true) (hl:inR w.level 3=true) (hi0:0≤w.index) (hv:(ws.get g)[i]?=some v) :
  ((Ff ws w.level w.index x).get g)[i]?=some (if (decide (g=w.level)&&decide ((i:Int)=w.index))=true then x else v):=by
 have hlen:=Au hv
 rw [AR] at hg hl
 have key:∀ l:List Al,l[i]?=some v→(l.set w.index.toNat x)[i]?=some (if ((i:Int)=w.index) then x else v):=by
  intro l h
  have hlen:=Au h
  rw [List.getElem?_set]
  by_cases hc:(i:Int)=w.index
  ·have:w.index.toNat=i:=by omega
   simp [this,hlen,hc]
  ·have:¬ w.index.toNat=i:=by omega
   simp [this,hc,h]
 by_cases hgl:g=w.level
 ·have e:(decide (g=w.level)&&decide ((i:Int)=w.index))=decide ((i:Int)=w.index):=by simp [hgl]
  rw [e]
  have e2:(if decide ((i:Int)=w.index)=true then x else v)=if (i:Int)=w.index then x else v:=by simp
  rw [e2,← key _ hv]
  congr 1
  rw [← hgl]
  unfold Ff A4.set A4.get
  split
  ·simp_all
  ·split
   ·simp_all
   ·split<;>simp_all
 ·have e:(decide (g=w.level)&&decide ((i:Int)=w.index))=false:=by simp [hgl]
  rw [e]
  simp only [Bool.false_eq_true,if_false]
  rw [← hv]
  congr 1
  unfold Ff A4.set A4.get
  have h4:(g=0∨g=1∨g=2∨g=3)∧(w.level=0∨w.level=1∨w.level=2∨w.level=3):=by omega
  obtain ⟨h4,h5⟩:=h4
  rcases h4 with h4 | h4 | h4 | h4<;>rcases h5 with h5 | h5 | h5 | h5<;>first | (exfalso;omega) | (rw [h4,h5];rfl)
theorem Te (c:Int) (m:Ad) (g:Int) (i:Nat):((BV c m).words.get g)[i]?=((m.words.get g)[i]?).map (Ap c):=by
 unfold BV A4.get
 split
 ·simp
 ·split
  ·simp
  ·split<;>simp
structure Wrote (m:Ad) (k:Nat) (s:Af) (w:Ak) (last:Bool) (a:Ad) (t:Af):Prop where
 l0:a.words.a0.length=m.words.a0.length
 l1:a.words.a1.length=m.words.a1.length
 l2:a.words.a2.length=m.words.a2.length
 l3:a.words.a3.length=m.words.a3.length
 word:∀ (g:Int) (i:Nat) (v:Al),inR g 3=true→(m.words.get g)[i]?=some v→(a.words.get g)[i]?=some (wL last s w g i v)
 clocks:a.clocks=m.clocks
 slen:a.sess.length=m.sess.length
 sess:a.sess[k]?=some t
 done:last=true→t.step=6∧t.result=1
 more:last=false→t.at_=s.at_+1∧t.step=4
end Ve
namespace Ve
open Go
theorem FI {a:Int} (h:inR a 3=true):a=0∨a=1∨a=2∨a=3:=by rw [AR] at h;omega
theorem UD {a b:Int} (ha:inR a 3=true) (hb:inR b 3=true):inR (orI a b) 3=true∧orI (orI a b) a=orI a b∧AG b (orI a b)=true∧(AG b a=false→decide (orI a b=a)=false):=by
 rcases FI ha with rfl | rfl | rfl | rfl<;>rcases FI hb with rfl | rfl | rfl | rfl<;>decide
def upM (m:Ad) (k:Nat) (s:Af) (l:Int):Ad:=AA (AT m ⟨s.id,s.label,2,l⟩) k { s with label:=l }
theorem pR {m:Ad} {k:Nat} {s:Af} {l:Int} (hs:m.sess[k]?=some s) (hM:Bo m) (hS:SP m.words s) (hl:inR l 3=true) (hc:AG l s.clear=true):Bo (upM m k s l):=by
 refine Hw (Jb hM hS.label) (s:=s) (by rw [CZ];exact hs) rfl ?_
 rw [Dj]
 exact { hS with label:=hl,AG:=hc }
theorem LR {m:Ad} {k:Nat} {s:Af} {l:Int}:(upM m k s l).sess=m.sess.set k { s with label:=l }:=by unfold upM AA;rw [CZ]
theorem RO {m:Ad} {k:Nat} {s:Af} {l:Int}:(upM m k s l).words=m.words:=by unfold upM AA;rw [Dj]
theorem KB {m:Ad} {s:Af} (hM:Bo m) (hS:SP m.words s):BU m.words s.reads s.id=(s.reads.all (Cz m.words s.id),0):=by
 unfold BU;rw [hM.arena,hS.reads,hS.rthere,hS.id];rfl
theorem Ty {m:Ad} {s:Af} (hM:Bo m) (hS:SP m.words s):BH m.words s.reads=(s.reads.any (FP m.words),0):=by
 unfold BH;rw [hM.arena,hS.reads,hS.rthere];rfl
end Ve
namespace Ve
open Go
theorem Kz {w y:Ak}:∀ {l:List Ak},y∈CW w l→y=w∨y∈l
 | [],h=>by simp [CW] at h;exact .inl h
 | x::r,h=>by
  unfold CW at h
  split at h
  ·rcases List.mem_cons.1 h with h | h
   ·exact .inr (by simp [h])
   ·rcases Kz h with h | h
    ·exact .inl h
    ·exact .inr (by simp [h])
  ·split at h
   ·rcases List.mem_cons.1 h with h | h
    ·exact .inl h
    ·exact .inr (by simp [h])
   ·rcases List.mem_cons.1 h with h | h
    ·exact .inl h
    ·exact .inr h
theorem LB {w:Ak}:∀ {l:List Ak},l.Pairwise (fun a b=>plW a<plW b)→(CW w l).Pairwise (fun a b=>plW a<plW b)
 | [],_=>by simp [CW]
 | x::r,h=>by
  obtain ⟨h1,h2⟩:=List.pairwise_cons.1 h
  unfold CW
  split
  ·rename_i hlt
   refine List.pairwise_cons.2 ⟨fun y hy=>?_,LB h2⟩
   rcases Kz hy with rfl | hy
   ·exact hlt
   ·exact h1 y hy
  ·split
   ·rename_i he
    refine List.pairwise_cons.2 ⟨fun y hy=>?_,h2⟩
    have:=h1 y hy
    show plW w<plW y
    rw [show plW w=plW x from he.symm];exact this
   ·rename_i hn he
    have hlt:plW w<plW x:=by show AC w.level w.index<AC x.level x.index;omega
    refine List.pairwise_cons.2 ⟨fun y hy=>?_,h⟩
    rcases List.mem_cons.1 hy with rfl | hy
    ·exact hlt
    ·exact Int.lt_trans hlt (h1 y hy)
theorem Tb {w:Ak}:∀ {l:List Ak},l.length≤(CW w l).length
 | []=>by simp [CW]
 | x::r=>by
  unfold CW
  split
  ·simp only [List.length_cons];have:=Tb (w:=w) (l:=r);omega
  ·split<;>simp only [List.length_cons]<;>omega
theorem Uy {w:Ak} (h:Az w=true):0≤plW w∧plW w<16:=by
 simp only [Az,Bool.and_eq_true,AR] at h
 show 0≤AC w.level w.index∧AC w.level w.index<16
 unfold AC;omega
theorem TS {l:List Ak} (h1:∀ w∈l,Az w=true) (h2:l.Pairwise (fun a b=>plW a<plW b)):l.length≤16:=by
 have hd:(l.map fun w=>(plW w).toNat).Nodup:=by
  rw [List.nodup_iff_pairwise_ne,List.pairwise_map]
  exact h2.imp_of_mem (fun ha hb h=>by have:=Uy (h1 _ ha);have:=Uy (h1 _ hb);omega)
 have:=Gk 16 (l.map fun w=>(plW w).toNat) hd (fun x hx=>by
  obtain ⟨r,hr,rfl⟩:=List.mem_map.1 hx
  have:=Uy (h1 r hr);omega)
 simpa using this
theorem Mn {l:List Ak} {w:Ak} (h:AS l=true) (hw:Az w=true):BK l w=(CW w l,0)∧AS (CW w l)=true:=by
 obtain ⟨h1,h2,_⟩:=Ci h
 have g1:∀ y∈CW w l,Az y=true:=fun y hy=>by
  rcases Kz hy with rfl | hy
  ·exact hw
  ·exact h1 y hy
 have g2:=LB (w:=w) h2
 refine ⟨by simp only [BK,h,hw,Bool.and_self,if_true],?_⟩
 simp only [AS,Bool.and_eq_true,decide_eq_true_eq]
 exact ⟨HH _ none g1 g2 (fun v hv=>by cases hv),TS g1 g2⟩
theorem ME {rs:A4 Int} (h:CX rs=true) {a v:Int} (ha:inR a 3=true) (hv:inR v 255=true):CX (rs.set a v)=true:=by
 simp only [CX,A4.all,Bool.and_eq_true] at h ⊢
 rcases FI ha with rfl | rfl | rfl | rfl<;>simp [A4.set,hv,h]
theorem So {rs:A4 Int} (h:CX rs=true) (a:Int):inR (rs.get a) 255=true:=by
 simp only [CX,A4.all,Bool.and_eq_true] at h
 unfold A4.get
 split
 ·exact h.1.1.1
 ·split
  ·exact h.1.1.2
  ·split
   ·exact h.1.2
   ·exact h.2
theorem Mo {ws:A4 (List Al)} (ha:AP ws=true) {l i:Int} (h:AW ws l i=true):AK (Bx ws l i)=true:=by
 simp only [AW,Bool.and_eq_true,decide_eq_true_eq] at h
 have hj:i.toNat<(ws.get l).length:=by omega
 have hg:Bx ws l i=(ws.get l)[i.toNat]:=by unfold Bx;rw [List.getElem?_eq_getElem hj];rfl
 rw [hg]
 have hmem:(ws.get l)[i.toNat]∈ws.get l:=List.getElem_mem hj
 simp only [AP,A4.all,Co,Bool.and_eq_true,List.all_eq_true,decide_eq_true_eq] at ha
 generalize (ws.get l)[i.toNat]=g at hmem
 unfold A4.get at hmem
 obtain ⟨⟨⟨a0,a1⟩,a2⟩,a3⟩:=ha
 split at hmem
 ·exact a0.2 g hmem
 ·split at hmem
  ·exact a1.2 g hmem
  ·split at hmem
   ·exact a2.2 g hmem
   ·exact a3.2 g hmem
theorem Tn {l i:Int}:∀ {ws:List Ak},(∀ w∈ws,Az w=true)→(Bs l i ws).2=true→inR (Bs l i ws).1 255=true
 | [],_,h=>by simp [Bs] at h
 | x::r,hw,h=>by
  unfold Bs at h ⊢
  split
  ·have:=hw x (by simp);simp only [Az,Bool.and_eq_true] at this;exact this.2
  ·rename_i hn
   rw [if_neg hn] at h
   exact Tn (fun w hw'=>hw w (by simp [hw'])) h
structure Et (m A:Ad) (k:Nat) (s t:Af):Prop where
 may:Bo A
 ceil:A.ceil=m.ceil
 sess:A.sess=m.sess.set k t
 id:t.id=s.id
 clear:t.clear=s.clear
 prog:t.prog=s.prog
 lab:AG s.label t.label=true
 trace:A.trace=m.trace∨∃ e:Bl,A.trace=m.trace++[e]∧e.id=s.id∧e.label=s.label
theorem BY {a:Int} (h:inR a 3=true):AG a a=true:=by
 rcases FI h with rfl | rfl | rfl | rfl<;>decide
theorem JZ (m:Ad) (e:Bl):(AT m e).trace=m.trace∨(AT m e).trace=m.trace++[e]:=by
 rw [TY];split
 ·exact .inr rfl
 ·exact .inl rfl
theorem Kp {m:Ad} {k:Nat} {s:Af} (hs:m.sess[k]?=some s) (hM:Bo m) (hS:SP m.words s) (kind:Int):Et m (JU m k s kind) k s (CT s):=by
 refine ⟨TO hs hM kind,Zj kind,PA kind,rfl,rfl,rfl,BY hS.label,?_⟩
 rcases JZ (AA (BV (s.id+1) m) k (CT s)) ⟨s.id,s.label,kind,Jn s.tries⟩ with h | h
 ·exact .inl h
 ·exact .inr ⟨_,h,rfl,rfl⟩
theorem KX {m:Ad} {k:Nat} {s:Af} (hs:m.sess[k]?=some s) (hM:Bo m) (hS:SP m.words s) {r t:Int} (hr:inR r 5=true) (ht:inR t 255=true):Et m (EN m k s r t) k s (FZ s r t):=by
 refine ⟨Pf hs hM hr ht,UX r t,JO r t,rfl,rfl,rfl,BY hS.label,?_⟩
 rcases JZ (AA (BV (s.id+1) m) k (FZ s r t)) ⟨s.id,s.label,6,r⟩ with h | h
 ·exact .inl h
 ·exact .inr ⟨_,h,rfl,rfl⟩
theorem Mc {m:Ad} {k:Nat} {s t:Af} (hs:m.sess[k]?=some s) (hM:Bo m) (hS:SP m.words s) (e:Bl) (he:e.id=s.id∧e.label=s.label) (ht:SP m.words t) (h1:t.id=s.id) (h2:t.clear=s.clear) (h3:t.prog=s.prog) (h4:AG s.label t.label=true):Et m (AT (AA m k t) e) k s t:=by
 refine ⟨Jb (Hw hM hs h1 ht) (by rw [he.2];exact hS.label),Fl _ _,CZ _ _,h1,h2,h3,h4,?_⟩
 rcases JZ (AA m k t) e with h | h
 ·exact .inl h
 ·exact .inr ⟨_,h,he.1,he.2⟩
theorem JL {m:Ad} {k:Nat} {s t:Af} (hs:m.sess[k]?=some s) (hM:Bo m) (ht:SP m.words t) (h1:t.id=s.id) (h2:t.clear=s.clear) (h3:t.prog=s.prog) (h4:AG s.label t.label=true):Et m (AA m k t) k s t :=
 ⟨Hw hM hs h1 ht,rfl,rfl,h1,h2,h3,h4,.inl rfl⟩
end Ve
namespace Ve
open Go
def eQ (xs ys:List Al):Nat→Int
 | 0=>0
 | n+1=>eQ xs ys n+(if (xs[n]?.map (·.lock))=(ys[n]?.map (·.lock)) then 0 else 1)
def GrW (id:Int) (x y:Al):Prop:=y.val=x.val∧y.ver=x.ver∧(x.lock=y.lock∨(x.lock≠y.lock∧y.lock≠0∧x.lock=0∧y.lock=id+1)∨(x.lock≠y.lock∧y.lock=0∧x.lock=id+1))
structure Gr (m A:Ad) (k:Nat) (s t:Af):Prop where
 len:∀ g,inR g 3=true→(A.words.get g).length=(m.words.get g).length
 word:∀ (g:Int) (j:Nat) (x:Al),inR g 3=true→(m.words.get g)[j]?=some x→∃ y,(A.words.get g)[j]?=some y∧GrW s.id x y
 clocks:A.clocks=m.clocks
 slen:A.sess.length=m.sess.length
 sess:A.sess[k]?=some t
 fin:t.step=0∨(t.at_=s.at_+1∧eQ m.words.a0 A.words.a0 m.words.a0.length+eQ m.words.a1 A.words.a1 m.words.a1.length+eQ m.words.a2 A.words.a2 m.words.a2.length+eQ m.words.a3 A.words.a3 m.words.a3.length=1)
theorem Nf {ws ws':A4 (List Al)} (h0:ws'.a0.length=ws.a0.length) (h1:ws'.a1.length=ws.a1.length) (h2:ws'.a2.length=ws.a2.length) (h3:ws'.a3.length=ws.a3.length) (g:Int):(ws'.get g).length=(ws.get g).length:=by
 unfold A4.get
 split
 ·exact h0
 ·split
  ·exact h1
  ·split
   ·exact h2
   ·exact h3
end Ve
namespace Ve
open Go
theorem oX (m:Ad) (at_ st:Int):Er m at_ st=none∨∃ (k n:Nat) (s:Af) (w:Ak),at_=(k:Nat)∧m.sess[k]?=some s∧Bo m∧SP m.words s∧s.step=st∧s.at_=(n:Int)∧n<s.writes.length∧s.writes[n]?=some w∧Er m at_ st=some (s,w):=by
 cases Hx m at_ st with
 | no h=>exact .inl (Dy (EC h))
 | off k s e hs hM hS hst=>subst e;exact .inl (Dy (CM hs hM hst))
 | fin k s e hs hM hS hst hp=>subst e;exact .inl (IB hs hM hst hp)
 | on k n s w e hs hM hS hst hp hn hi=>subst e;exact .inr ⟨k,n,s,w,rfl,hs,hM,hS,hst,hp,hn,hi,Kr hs hM hst hp hi⟩
theorem RX {α:Type} {l:List α} {k:Nat} {x:α} (h:l[k]?=some x):l.set k x=l:=by
 apply List.ext_getElem?
 intro i
 rw [List.getElem?_set]
 split
 ·rename_i e;subst e;rw [if_pos (Au h),h]
 ·rfl
section
variable {m:Ad} {k:Nat} {s:Af} (hs:m.sess[k]?=some s) (hM:Bo m) (hS:SP m.words s)
include hs hM hS
theorem cT {x:Av} (hcur:CA m k=some (s,x)) (hc:x.code=2) (hlx:inR x.b 3=true) (hu:AG x.b s.label=false):∃ t,Et m (Bn m k).1 k s t∧(Bn m k).2=0:=by
 obtain ⟨o1,o2,o3,o4⟩:=UD hS.label hlx
 cases hcl:AG (orI s.label x.b) s.clear
 ·have e:Bn m k=CL m k 4 0:=by unfold Bn;rw [hcur];simp only [hc,hu,hcl];rfl
  rw [e,FY hs hM (by decide) (by decide)]
  exact ⟨_,KX hs hM hS (by decide) (by decide),rfl⟩
 ·have e:Bn m k=(upM m k s (orI s.label x.b),0):=by unfold Bn;rw [hcur];simp only [hc,hu,hcl];rfl
  rw [e]
  refine ⟨{ s with label:=orI s.label x.b },⟨pR hs hM hS o1 hcl,Fl m ⟨s.id,s.label,2,orI s.label x.b⟩,LR,rfl,rfl,rfl,?_,?_⟩,rfl⟩
  ·show AG s.label (orI s.label x.b)=true
   unfold AG;rw [decide_eq_true_eq]
   have:orI s.label (orI s.label x.b)=orI (orI s.label x.b) s.label:=by simp only [orI,BitVec.or_comm]
   rw [this];exact o2
  ·show (AT m _).trace=_∨_
   rcases JZ m ⟨s.id,s.label,2,orI s.label x.b⟩ with h | h
   ·exact .inl h
   ·exact .inr ⟨_,h,rfl,rfl⟩
theorem Vz {i:Av} {rs:List AO} {v:Int} {n:Nat} (hp:s.pc=(n:Int)) (hn:n<s.prog.length) (ha:inR i.a 3=true) (hv:inR v 255=true) (hr:AJ rs=true) (ht:AD m.words rs=true):SP m.words (Cp s i rs v) :=
 { hS with reads:=hr,rthere:=ht,regs:=ME hS.regs ha hv,pc:=by rw [AR];show 0≤s.pc+1∧s.pc+1≤(s.prog.length:Int);omega }
theorem cS {n:Nat} {x:Av} (hst:s.step=0) (hp:s.pc=(n:Int)) (hi:s.prog[n]?=some x) (hc:x.code=2) (hu:AG x.b s.label=true):∃ t,Et m (BX m k).1 k s t∧(BX m k).2=0:=by
 have hcur:=Dp hs hM hst hp hi
 have hn:=Au hi
 obtain ⟨hx,_,hth⟩:=Dk hS hi
 have hth:=hth (.inl hc)
 have ha:=EV hx (by omega)
 have e0:BX m k=(if (Ba s.writes x.b x.c).2=true then (AT (AA m k (Cp s x s.reads (Ba s.writes x.b x.c).1)) ⟨s.id,s.label,0,(Ba s.writes x.b x.c).1⟩,0)
   else if (BU m.words s.reads s.id).1=true∧(Bx m.words x.b x.c).lock=0 then
    (AT (AA m k (Cp s x (AX s.reads ⟨x.b,x.c,(Bx m.words x.b x.c).ver⟩).1 (Bx m.words x.b x.c).val)) ⟨s.id,s.label,0,(Bx m.words x.b x.c).val⟩,0)
   else By m k 3):=by
  unfold BX;rw [hcur];simp only [hc,hu,if_true,Int.toNat_natCast]
 rw [e0]
 have hul:=BY hS.label
 split
 ·rename_i hf
  have hv:inR (Ba s.writes x.b x.c).1 255=true:=by
   unfold Ba at hf ⊢
   rw [if_pos hS.writes] at hf ⊢
   exact Tn (Ci hS.writes).1 hf
  exact ⟨_,Mc hs hM hS _ ⟨rfl,rfl⟩ (Vz hs hM hS hp hn ha hv hS.reads hS.rthere) rfl rfl rfl hul,rfl⟩
 ·split
  ·have hwm:=Mo hM.arena hth
   simp only [AK,Bool.and_eq_true] at hwm
   have hl:=Dc hx (.inl hc)
   have hr1:Cw ⟨x.b,x.c,(Bx m.words x.b x.c).ver⟩=true:=by simp only [Cw,hl.1,hl.2,hwm.1.2];rfl
   have hroom:=IZ hS.reads hr1
   have hrr:AJ (AX s.reads ⟨x.b,x.c,(Bx m.words x.b x.c).ver⟩).1=true∧AD m.words (AX s.reads ⟨x.b,x.c,(Bx m.words x.b x.c).ver⟩).1=true:=by
    rcases hroom with ⟨h,_⟩ | ⟨h,_,h2⟩
    ·rw [h];exact ⟨hS.reads,hS.rthere⟩
    ·rw [h];refine ⟨h2,?_⟩
     have:=hS.rthere
     simp only [AD] at this ⊢
     rw [List.all_append,this,List.all_cons,hth];rfl
   exact ⟨_,Mc hs hM hS _ ⟨rfl,rfl⟩ (Vz hs hM hS hp hn ha hwm.1.1 hrr.1 hrr.2) rfl rfl rfl hul,rfl⟩
  ·rw [FR hs hM (.inl rfl)]
   exact ⟨_,Kp hs hM hS 3,rfl⟩
theorem cQ {n:Nat} {x:Av} (hst:s.step=0) (hp:s.pc=(n:Int)) (hi:s.prog[n]?=some x) (hc:x.code=3):∃ t,Et m (Cu m k).1 k s t∧(Cu m k).2=0:=by
 have hcur:=Dp hs hM hst hp hi
 have hn:=Au hi
 obtain ⟨hx,_,hth⟩:=Dk hS hi
 have hth:=hth (.inr hc)
 have hl:=Dc hx (.inr hc)
 have hw1:Az ⟨x.b,x.c,s.regs.get x.a⟩=true:=by simp only [Az,hl.1,hl.2,So hS.regs];rfl
 obtain ⟨hr1,hr2⟩:=Mn hS.writes hw1
 have e0:Cu m k=(AT (AA m k { s with writes:=CW ⟨x.b,x.c,s.regs.get x.a⟩ s.writes,pc:=s.pc+1 }) ⟨s.id,s.label,1,s.regs.get x.a⟩,0):=by
  unfold Cu;rw [hcur];simp only [hc,if_true,Int.toNat_natCast,hr1]
 rw [e0]
 refine ⟨_,Mc hs hM hS _ ⟨rfl,rfl⟩ ?_ rfl rfl rfl (BY hS.label),rfl⟩
 have hat:=AR.1 hS.at_
 have hlen:=Tb (w:=⟨x.b,x.c,s.regs.get x.a⟩) (l:=s.writes)
 refine { hS with writes:=hr2,wthere:=?_,at_:=?_,pc:=?_ }
 ·have:=hS.wthere
  simp only [Cc,List.all_eq_true] at this ⊢
  intro y hy
  rcases Kz hy with rfl | hy
  ·exact hth
  ·exact this y hy
 ·rw [AR];show 0≤s.pc+1∧s.pc+1≤(s.prog.length:Int);omega
 ·rw [AR];show 0≤s.at_∧s.at_≤((CW _ s.writes).length:Int);omega
theorem lH {n:Nat} {x:Av} (hst:s.step=0) (hp:s.pc=(n:Int)) (hi:s.prog[n]?=some x) (hc:x.code=0∨x.code=1∨x.code=4):∃ t,Et m (Cn m k).1 k s t∧(Cn m k).2=0:=by
 have hcur:=Dp hs hM hst hp hi
 have hn:=Au hi
 obtain ⟨hx,hz,_⟩:=Dk hS hi
 have ha:=EV hx (by omega)
 have hpc:inR (s.pc+1) (s.prog.length:Int)=true:=by rw [AR];omega
 have hul:=BY hS.label
 rcases hc with hc | hc | hc
 ·have hb:=Kx hx hc
  have e0:Cn m k=(AA m k { s with regs:=s.regs.set x.a x.b,pc:=s.pc+1 },0):=by
   unfold Cn;rw [hcur];simp only [hc,if_true,Int.toNat_natCast,KR,hS.regs,ha,hb,Bool.and_self]
  rw [e0]
  exact ⟨_,JL hs hM { hS with regs:=ME hS.regs ha hb,pc:=hpc } rfl rfl rfl hul,rfl⟩
 ·have hb:=Ky hx hc
  have e0:Cn m k=(AA m k { s with regs:=s.regs.set x.a ((s.regs.get x.a+s.regs.get x.b) % 256),pc:=s.pc+1 },0):=by
   unfold Cn;rw [hcur];simp only [hc,show ((1:Int)=0)=False by decide,if_true,if_false,Int.toNat_natCast,Lp,hS.regs,ha,hb,Bool.and_self]
  rw [e0]
  exact ⟨_,JL hs hM { hS with regs:=ME hS.regs ha (by rw [AR];omega),pc:=hpc } rfl rfl rfl hul,rfl⟩
 ·have hz:=hz hc
  have e0:Cn m k=(AA m k { s with pc:=if s.regs.get x.a=0 then x.b else s.pc+1 },0):=by
   unfold Cn;rw [hcur];simp only [hc,show ((4:Int)=0)=False by decide,show ((4:Int)=1)=False by decide,if_true,if_false,Int.toNat_natCast]
  rw [e0]
  refine ⟨_,JL hs hM { hS with pc:=?_ } rfl rfl rfl hul,rfl⟩
  show inR (if s.regs.get x.a=0 then x.b else s.pc+1) (s.prog.length:Int)=true
  split
  ·rw [AR];omega
  ·exact hpc
theorem lE {n:Nat} {x:Av} (hst:s.step=0) (hp:s.pc=(n:Int)) (hi:s.prog[n]?=some x) (hc:x.code=5):∃ t,Et m (Cg m k).1 k s t∧(Cg m k).2=0:=by
 have hcur:=Dp hs hM hst hp hi
 have e0:Cg m k=(AT (AA m k { s with writes:=[],at_:=0,step:=5 }) ⟨s.id,s.label,4,s.reads.length⟩,0):=by
  unfold Cg;rw [hcur];simp only [hc,if_true,Int.toNat_natCast]
 rw [e0]
 exact ⟨_,Mc hs hM hS _ ⟨rfl,rfl⟩ { hS with writes:=Mm,wthere:=rfl,at_:=by simp [inR],step:=by rfl } rfl rfl rfl (BY hS.label),rfl⟩
theorem lD (hst:s.step=5):∃ t,Et m (Cg m k).1 k s t∧(Cg m k).2=0:=by
 have e0:Cg m k=if (BH m.words s.reads).1=true then By m k 5 else (m,0):=by
  unfold Cg;rw [CC hs hM (by omega),Cb hs hM hst]
 rw [e0]
 split
 ·rw [FR hs hM (.inr rfl)]
  exact ⟨_,Kp hs hM hS 5,rfl⟩
 ·refine ⟨s,⟨hM,rfl,?_,rfl,rfl,rfl,BY hS.label,.inl rfl⟩,rfl⟩
  exact (RX hs).symm
theorem lF (hst:s.step=0):∃ t,Et m (Ee m k s).1 k s t∧(Ee m k s).2=0:=by
 unfold Ee
 split
 ·rw [Int.toNat_natCast]
  refine ⟨_,JL hs hM { hS with at_:=?_,step:=?_ } rfl rfl rfl (BY hS.label),rfl⟩
  ·rw [AR];show 0≤(0:Int)∧(0:Int)≤(s.writes.length:Int);omega
  ·show inR (if s.writes=[] then 3 else 1) 6=true
   split<;>rfl
 ·rw [FY hs hM (by decide) (by decide)]
  exact ⟨_,KX hs hM hS (by decide) (by decide),rfl⟩
theorem lG (h:(DO m k).2=0):∃ t,Et m (DO m k).1 k s t:=by
 rcases oX m k 1 with hn | ⟨k',n,s',w,e,hs',_,_,hst,hp,hn,hi,hl⟩
 ·have e:DO m k=(AN,1800):=by unfold DO;rw [hn]
  rw [e] at h;cases h
 ·obtain rfl:k=k':=by omega
  obtain rfl:s=s':=by rw [hs] at hs';cases hs';rfl
  obtain ⟨h1,h2⟩:=IX hS hi
  have hwm:=Mo hM.arena h1
  by_cases hlk:(Bx m.words w.level w.index).lock=0
  ·have e:DO m k=(AA (FC m w.level w.index { Bx m.words w.level w.index with lock:=s.id+1 }) k { s with at_:=s.at_+1,step:=if s.at_+1=s.writes.length then 2 else s.step },0):=by
    unfold DO;rw [hl];simp only [hlk,if_true,Int.toNat_natCast]
   rw [e]
   have hid:=AR.1 hS.id
   have hw':AK { Bx m.words w.level w.index with lock:=s.id+1 }=true:=by
    simp only [AK,Bool.and_eq_true] at hwm ⊢
    exact ⟨hwm.1,by rw [AR];omega⟩
   have hM':=RY hM w.level w.index hw'
   have hS':=(Vy (m:=m) w.level w.index { Bx m.words w.level w.index with lock:=s.id+1 }).2 hS
   refine ⟨{ s with at_:=s.at_+1,step:=if s.at_+1=s.writes.length then 2 else s.step },?_⟩
   have:=JL (m:=FC m w.level w.index { Bx m.words w.level w.index with lock:=s.id+1 }) (k:=k) (s:=s) (t:={ s with at_:=s.at_+1,step:=if s.at_+1=s.writes.length then 2 else s.step }) hs hM' { hS' with at_:=?_,step:=?_ } rfl rfl rfl (BY hS.label)
   ·exact ⟨this.may,this.ceil,this.sess,rfl,rfl,rfl,this.lab,this.trace⟩
   ·rw [AR];show 0≤s.at_+1∧s.at_+1≤(s.writes.length:Int);omega
   ·show inR (if s.at_+1=(s.writes.length:Int) then 2 else s.step) 6=true
    split
    ·rfl
    ·exact hS.step
  ·have e:DO m k=By m k 3:=by unfold DO;rw [hl];simp only [hlk,if_false]
   rw [e,FR hs hM (.inl rfl)]
   exact ⟨_,Kp hs hM hS 3⟩
theorem cR (hst:s.step=2):∃ t,Et m (Da m k).1 k s t:=by
 have hcur:=Cb hs hM hst
 by_cases hc:m.ceil≤m.clocks.get s.label
 ·have e:Da m k=CL m k 5 0:=by unfold Da;rw [hcur];simp only [hc,if_true]
  rw [e,FY hs hM (by decide) (by decide)]
  exact ⟨_,KX hs hM hS (by decide) (by decide)⟩
 ·have e:Da m k=(AA { m with clocks:=m.clocks.set s.label (m.clocks.get s.label+1) } k { s with stamp:=m.clocks.get s.label+1,step:=3 },0):=by
   unfold Da;rw [hcur];simp only [hc,if_false,Int.toNat_natCast]
  rw [e]
  have hcl:=hM.clocks
  have hce:=AR.1 hM.ceil
  simp only [A4.all,Bool.and_eq_true,AR] at hcl
  have hg:0≤m.clocks.get s.label:=by
   unfold A4.get;split
   ·exact hcl.1.1.1.1
   ·split
    ·exact hcl.1.1.2.1
    ·split
     ·exact hcl.1.2.1
     ·exact hcl.2.1
  have hM':Bo { m with clocks:=m.clocks.set s.label (m.clocks.get s.label+1) }:=by
   refine ⟨hM.arena,hM.ceil,?_,hM.sl,hM.tl,hM.ids,hM.sess,hM.trace⟩
   simp only [A4.all,Bool.and_eq_true,AR]
   rcases FI hS.label with h | h | h | h<;>rw [h] at hc hg ⊢<;>simp only [A4.set,A4.get,simprocAttr] at hc hg ⊢<;>omega
  have hS':SP { m with clocks:=m.clocks.set s.label (m.clocks.get s.label+1):Ad }.words s:=hS
  refine ⟨{ s with stamp:=m.clocks.get s.label+1,step:=3 },?_⟩
  have:=JL (m:={ m with clocks:=m.clocks.set s.label (m.clocks.get s.label+1) }) (k:=k) (s:=s) (t:={ s with stamp:=m.clocks.get s.label+1,step:=3 }) hs hM' { hS' with stamp:=by rw [AR];show 0≤m.clocks.get s.label+1∧m.clocks.get s.label+1≤65535;omega,step:=by rfl } rfl rfl rfl (BY hS.label)
  exact ⟨this.may,this.ceil,this.sess,rfl,rfl,rfl,this.lab,this.trace⟩
theorem cU (hst:s.step=3):∃ t,Et m (Df m k).1 k s t:=by
 have hcur:=Cb hs hM hst
 have e:Df m k=if (BU m.words s.reads s.id).1=true then (if s.writes=[] then CL m k 1 0 else (AA m k { s with at_:=0,step:=4 },0)) else By m k 3:=by unfold Df;rw [hcur];simp only [Int.toNat_natCast]
 rw [e]
 split
 ·split
  ·rw [FY hs hM (by decide) (by decide)];exact ⟨_,KX hs hM hS (by decide) (by decide)⟩
  ·exact ⟨_,JL hs hM { hS with at_:=by rw [AR];show 0≤(0:Int)∧(0:Int)≤(s.writes.length:Int);omega,step:=by rfl } rfl rfl rfl (BY hS.label)⟩
 ·rw [FR hs hM (.inl rfl)];exact ⟨_,Kp hs hM hS 3⟩
theorem lJ (h:(DR m k).2=0):∃ t,Et m (DR m k).1 k s t:=by
 rcases oX m k 4 with hn | ⟨k',n,s',w,e,hs',_,_,hst,hp,hn,hi,hl⟩
 ·have e:DR m k=(AN,2100):=by unfold DR;rw [hn]
  rw [e] at h;cases h
 ·obtain rfl:k=k':=by omega
  obtain rfl:s=s':=by rw [hs] at hs';cases hs';rfl
  obtain ⟨h1,h2⟩:=IX hS hi
  simp only [Az,Bool.and_eq_true] at h2
  have hmay:=Of hs hM hS hp hn h2.2
  have hk:=Au hs
  have hs1:(BR m k s w).sess[k]?=some { s with at_:=s.at_+1 }:=List.getElem?_set_self (by simpa [FC] using hk)
  have hse:(BR m k s w).sess=m.sess.set k { s with at_:=s.at_+1 }:=by simp [BR,AA,FC]
  by_cases hlast:s.at_+1=s.writes.length
  ·have e:DR m k=CL (BR m k s w) k 1 0:=by unfold DR;rw [hl];simp only [hlast,if_true]
   rw [e,FY hs1 hmay (by decide) (by decide)]
   have hS1:=(sp _ _).1 (hmay.sess _ (List.mem_of_getElem? hs1))
   have:=KX hs1 hmay hS1 (r:=1) (t:=0) (by decide) (by decide)
   refine ⟨FZ { s with at_:=s.at_+1 } 1 0,this.may,this.ceil,?_,rfl,rfl,rfl,this.lab,this.trace⟩
   rw [this.sess,hse,List.set_set]
  ·have e:DR m k=(BR m k s w,0):=by unfold DR;rw [hl];simp only [hlast,if_false]
   rw [e]
   exact ⟨{ s with at_:=s.at_+1 },hmay,rfl,hse,rfl,rfl,rfl,BY hS.label,.inl rfl⟩
theorem Ut (h:(Be m k s).2=0):∃ t,Et m (Be m k s).1 k s t:=by
 unfold Be at h ⊢
 split at h
 ·rename_i hst
  rw [if_pos hst]
  have hp:=AR.1 hS.pc
  unfold ER at h ⊢
  split
  ·rename_i x hx
   rw [hx] at h
   have hn:=Au hx
   have hpn:s.pc=((s.pc.toNat:Nat):Int):=by omega
   obtain ⟨hxm,_,_⟩:=Dk hS hx
   simp only at h ⊢
   split
   ·rename_i hc
    have hcur:=Dp hs hM hst hpn hx
    have hne:BF m k=(!AG x.b s.label,0):=by unfold BF;rw [hcur];simp only [hc,if_true]
    rw [hne]
    cases hu:AG x.b s.label
    ·obtain ⟨t,ht,_⟩:=cT hs hM hS hcur hc (Dc hxm (.inl hc)).1 hu
     exact ⟨t,ht⟩
    ·obtain ⟨t,ht,_⟩:=cS hs hM hS hst hpn hx hc hu
     exact ⟨t,ht⟩
   ·split
    ·rename_i hc
     obtain ⟨t,ht,_⟩:=cQ hs hM hS hst hpn hx hc
     exact ⟨t,ht⟩
    ·split
     ·rename_i hc
      obtain ⟨t,ht,_⟩:=lE hs hM hS hst hpn hx hc
      exact ⟨t,ht⟩
     ·split
      ·rename_i hc
       have ht:=KZ hxm hc
       rw [FY hs hM (by decide) ht]
       exact ⟨_,KX hs hM hS (by decide) ht⟩
      ·have hc:=Je hxm
       obtain ⟨t,ht,_⟩:=lH hs hM hS hst hpn hx (by omega)
       exact ⟨t,ht⟩
  ·obtain ⟨t,ht,_⟩:=lF hs hM hS hst
   exact ⟨t,ht⟩
 ·rename_i h0
  rw [if_neg h0]
  split at h
  ·rename_i h1;rw [if_pos h1];exact lG hs hM hS h
  ·rename_i h1;rw [if_neg h1]
   split at h
   ·rename_i h2;rw [if_pos h2];exact cR hs hM hS h2
   ·rename_i h2;rw [if_neg h2]
    split at h
    ·rename_i h3;rw [if_pos h3];exact cU hs hM hS h3
    ·rename_i h3;rw [if_neg h3]
     split at h
     ·rename_i h4;rw [if_pos h4];exact lJ hs hM hS h
     ·rename_i h4;rw [if_neg h4]
      split at h
      ·rename_i h5;rw [if_pos h5]
       obtain ⟨t,ht,_⟩:=lD hs hM hS h5
       exact ⟨t,ht⟩
      ·rename_i h5;rw [if_neg h5]
       exact ⟨s,hM,rfl,(RX hs).symm,rfl,rfl,rfl,BY hS.label,.inl rfl⟩
theorem Ii (h:(BL m k).2=0):∃ t,Et m (BL m k).1 k s t:=by
 have hh:=Bf hs hM
 unfold BL at h ⊢
 rw [if_pos hh,Int.toNat_natCast,hs] at h ⊢
 simp only at h ⊢
 split at h
 ·rename_i h0;rw [if_pos h0];exact Ut hs hM hS h0
 ·cases h
end
end Ve
namespace Ve
open Go
def JX (rs:List AO) (r:AO):List AO:=if rs.any (Cd r)=true then rs else rs++[r]
def Qt (m:Ad) (k:Nat) (s:Af) (x:Av):Ad :=
 if (Bs x.b x.c s.writes).2=true then AT (AA m k (Cp s x s.reads (Bs x.b x.c s.writes).1)) ⟨s.id,s.label,0,(Bs x.b x.c s.writes).1⟩
 else if s.reads.all (Cz m.words s.id)=true∧(Bx m.words x.b x.c).lock=0 then
  AT (AA m k (Cp s x (JX s.reads ⟨x.b,x.c,(Bx m.words x.b x.c).ver⟩) (Bx m.words x.b x.c).val)) ⟨s.id,s.label,0,(Bx m.words x.b x.c).val⟩
 else JU m k s 3
def Qv (m:Ad) (k:Nat) (s:Af) (x:Av):Ad:=if AG (orI s.label x.b) s.clear=true then upM m k s (orI s.label x.b) else EN m k s 4 0
def TZ (m:Ad) (k:Nat) (s:Af) (x:Av):Ad:=AT (AA m k { s with writes:=CW ⟨x.b,x.c,s.regs.get x.a⟩ s.writes,pc:=s.pc+1 }) ⟨s.id,s.label,1,s.regs.get x.a⟩
def fC (m:Ad) (k:Nat) (s:Af) (x:Av):Ad :=
 if x.code=0 then AA m k { s with regs:=s.regs.set x.a x.b,pc:=s.pc+1 }
 else if x.code=1 then AA m k { s with regs:=s.regs.set x.a ((s.regs.get x.a+s.regs.get x.b) % 256),pc:=s.pc+1 }
 else AA m k { s with pc:=if s.regs.get x.a=0 then x.b else s.pc+1 }
def bH (m:Ad) (k:Nat) (s:Af):Ad:=AT (AA m k { s with writes:=[],at_:=0,step:=5 }) ⟨s.id,s.label,4,s.reads.length⟩
def Vw (m:Ad) (k:Nat) (s:Af):Ad:=if s.reads.any (FP m.words)=true then JU m k s 5 else m
def dD (m:Ad) (k:Nat) (s:Af):Ad :=
 if s.writes.all (fun w=>decide (w.level=s.label))=true then AA m k { s with at_:=0,step:=if s.writes=[] then 3 else 1 } else EN m k s 3 0
def Sj (m:Ad) (k:Nat) (s:Af):Ad :=
 match s.prog[s.pc.toNat]? with
 | some x =>
  if x.code=2 then (if AG x.b s.label=true then Qt m k s x else Qv m k s x)
  else if x.code=3 then TZ m k s x
  else if x.code=5 then bH m k s
  else if x.code=6 then EN m k s 2 x.a
  else fC m k s x
 | none=>dD m k s
def Wq (m:Ad) (k:Nat) (s:Af):Option Ad :=
 match s.writes[s.at_.toNat]? with
 | some w=>some (if (Bx m.words w.level w.index).lock=0 then AA (FC m w.level w.index { Bx m.words w.level w.index with lock:=s.id+1 }) k { s with at_:=s.at_+1,step:=if s.at_+1=s.writes.length then 2 else s.step } else JU m k s 3)
 | none=>none
def Ms (m:Ad) (k:Nat) (s:Af):Ad :=
 if m.ceil≤m.clocks.get s.label then EN m k s 5 0 else AA { m with clocks:=m.clocks.set s.label (m.clocks.get s.label+1) } k { s with stamp:=m.clocks.get s.label+1,step:=3 }
def Ns (m:Ad) (k:Nat) (s:Af):Ad :=
 if s.reads.all (Cz m.words s.id)=true then (if s.writes=[] then EN m k s 1 0 else AA m k { s with at_:=0,step:=4 }) else JU m k s 3
def Xx (m:Ad) (k:Nat) (s:Af):Option Ad :=
 match s.writes[s.at_.toNat]? with
 | some w=>some (if s.at_+1=s.writes.length then EN (BR m k s w) k { s with at_:=s.at_+1 } 1 0 else BR m k s w)
 | none=>none
def Fg (m:Ad) (k:Nat) (s:Af):Option Ad :=
 if s.step=0 then some (Sj m k s)
 else if s.step=1 then Wq m k s
 else if s.step=2 then some (Ms m k s)
 else if s.step=3 then some (Ns m k s)
 else if s.step=4 then Xx m k s
 else if s.step=5 then some (Vw m k s)
 else some m
section
variable {m:Ad} {k:Nat} {s:Af} (hs:m.sess[k]?=some s) (hM:Bo m) (hS:SP m.words s)
include hs hM hS
theorem rB (hst:s.step=0):ER m k s=(Sj m k s,0):=by
 have hp:=AR.1 hS.pc
 unfold ER Sj
 cases hx:s.prog[s.pc.toNat]? with
 | some x =>
  have hpn:s.pc=((s.pc.toNat:Nat):Int):=by omega
  have hcur:=Dp hs hM hst hpn hx
  obtain ⟨hxm,hz,hth⟩:=Dk hS hx
  simp only
  by_cases hc:x.code=2
  ·rw [if_pos hc,if_pos hc]
   have hne:BF m k=(!AG x.b s.label,0):=by unfold BF;rw [hcur];simp only [hc,if_true]
   rw [hne]
   cases hu:AG x.b s.label
   ·simp only [Bool.not_false,if_true,Bool.false_eq_true,if_false]
    unfold Qv Bn
    rw [hcur]
    simp only [hc,hu,Bool.false_eq_true,if_true,if_false,Int.toNat_natCast]
    by_cases hcl:AG (orI s.label x.b) s.clear=true
    ·rw [if_pos hcl,if_pos hcl];rfl
    ·rw [if_neg hcl,if_neg hcl];exact FY hs hM (by decide) (by decide)
   ·simp only [Bool.not_true,if_true,Bool.false_eq_true,if_false]
    have hf:Ba s.writes x.b x.c=Bs x.b x.c s.writes:=by unfold Ba;rw [if_pos hS.writes]
    have hg:(BU m.words s.reads s.id).1=s.reads.all (Cz m.words s.id):=by rw [KB hM hS]
    have hwm:=Mo hM.arena (hth (.inl hc))
    simp only [AK,Bool.and_eq_true] at hwm
    have hl:=Dc hxm (.inl hc)
    have hr1:Cw ⟨x.b,x.c,(Bx m.words x.b x.c).ver⟩=true:=by simp only [Cw,hl.1,hl.2,hwm.1.2];rfl
    have hwr:(AX s.reads ⟨x.b,x.c,(Bx m.words x.b x.c).ver⟩).1=JX s.reads ⟨x.b,x.c,(Bx m.words x.b x.c).ver⟩:=by
     rcases IZ hS.reads hr1 with ⟨h,h2⟩ | ⟨h,h2,_⟩
     ·rw [h];unfold JX;rw [if_pos h2]
     ·rw [h];unfold JX;rw [h2];rfl
    unfold BX Qt
    rw [hcur]
    simp only [hc,hu,if_true,hf,hg,hwr,Int.toNat_natCast]
    by_cases h1:(Bs x.b x.c s.writes).2=true
    ·rw [if_pos h1,if_pos h1]
    ·rw [if_neg h1,if_neg h1]
     by_cases h2:s.reads.all (Cz m.words s.id)=true∧(Bx m.words x.b x.c).lock=0
     ·rw [if_pos h2,if_pos h2]
     ·rw [if_neg h2,if_neg h2];exact FR hs hM (.inl rfl)
  ·rw [if_neg hc,if_neg hc]
   by_cases hc:x.code=3
   ·rw [if_pos hc,if_pos hc]
    have hl:=Dc hxm (.inr hc)
    have hw1:Az ⟨x.b,x.c,s.regs.get x.a⟩=true:=by simp only [Az,hl.1,hl.2,So hS.regs];rfl
    obtain ⟨hr1,_⟩:=Mn hS.writes hw1
    unfold Cu TZ;rw [hcur];simp only [hc,if_true,Int.toNat_natCast,hr1]
   ·rw [if_neg hc,if_neg hc]
    by_cases hc:x.code=5
    ·rw [if_pos hc,if_pos hc]
     unfold Cg bH;rw [hcur];simp only [hc,if_true,Int.toNat_natCast]
    ·rw [if_neg hc,if_neg hc]
     by_cases hc:x.code=6
     ·rw [if_pos hc,if_pos hc];exact FY hs hM (by decide) (KZ hxm hc)
     ·rw [if_neg hc,if_neg hc]
      have hcd:=Je hxm
      have ha:=EV hxm (by omega)
      unfold Cn fC;rw [hcur]
      simp only [Int.toNat_natCast]
      by_cases h0:x.code=0
      ·rw [if_pos h0,if_pos h0];simp only [KR,hS.regs,ha,Kx hxm h0,Bool.and_self,if_true]
      ·rw [if_neg h0,if_neg h0]
       by_cases h1:x.code=1
       ·rw [if_pos h1,if_pos h1];simp only [Lp,hS.regs,ha,Ky hxm h1,Bool.and_self,if_true]
       ·have h4:x.code=4:=by omega
        rw [if_neg h1,if_neg h1,if_pos h4]
 | none =>
  simp only
  unfold Ee dD DI
  rw [hS.writes,Bool.true_and,Int.toNat_natCast]
  by_cases h:(s.writes.all fun w=>decide (w.level=s.label))=true
  ·rw [if_pos h,if_pos h]
  ·rw [if_neg h,if_neg h];exact FY hs hM (by decide) (by decide)
theorem Wf {st:Int} (h:s.step=st):Er m k st=match s.writes[s.at_.toNat]? with
 | some w=>some (s,w)
 | none=>none:=by
 unfold Er;rw [Cb hs hM h];rfl
theorem gX:BL m k=match Fg m k s with
 | some A=>(A,0)
 | none=>(AN,2300):=by
 have hh:=Bf hs hM
 have e:BL m k=if (Be m k s).2=0 then ((Be m k s).1,0) else (AN,2300):=by
  unfold BL;rw [if_pos hh,Int.toNat_natCast,hs]
 rw [e]
 unfold Be Fg
 by_cases h0:s.step=0
 ·rw [if_pos h0,if_pos h0,rB hs hM hS h0];rfl
 rw [if_neg h0,if_neg h0]
 by_cases h1:s.step=1
 ·rw [if_pos h1,if_pos h1]
  unfold DO Wq
  rw [Wf hs hM hS h1]
  cases s.writes[s.at_.toNat]? with
  | none=>rfl
  | some w =>
   simp only [Int.toNat_natCast]
   by_cases hl:(Bx m.words w.level w.index).lock=0
   ·simp only [hl,if_true]
   ·simp only [hl,if_false];rw [FR hs hM (.inl rfl)];rfl
 rw [if_neg h1,if_neg h1]
 by_cases h2:s.step=2
 ·rw [if_pos h2,if_pos h2]
  unfold Da Ms
  rw [Cb hs hM h2]
  simp only [Int.toNat_natCast]
  by_cases hc:m.ceil≤m.clocks.get s.label
  ·simp only [hc,if_true];rw [FY hs hM (by decide) (by decide)];rfl
  ·simp only [hc,if_false];rfl
 rw [if_neg h2,if_neg h2]
 by_cases h3:s.step=3
 ·rw [if_pos h3,if_pos h3]
  unfold Df Ns
  rw [Cb hs hM h3]
  simp only [Int.toNat_natCast]
  rw [KB hM hS]
  simp only
  by_cases hg:s.reads.all (Cz m.words s.id)=true
  ·simp only [hg,if_true]
   by_cases hw:s.writes=[]
   ·simp only [hw,if_true];rw [FY hs hM (by decide) (by decide)];rfl
   ·simp only [hw,if_false];rfl
  ·simp only [hg,Bool.false_eq_true,if_false];rw [FR hs hM (.inl rfl)];rfl
 rw [if_neg h3,if_neg h3]
 by_cases h4:s.step=4
 ·rw [if_pos h4,if_pos h4]
  unfold DR Xx
  rw [Wf hs hM hS h4]
  cases hw:s.writes[s.at_.toNat]? with
  | none=>rfl
  | some w =>
   simp only
   have hat:=AR.1 hS.at_
   have hn:=Au hw
   have hpn:s.at_=((s.at_.toNat:Nat):Int):=by omega
   obtain ⟨g1,g2⟩:=IX hS hw
   simp only [Az,Bool.and_eq_true] at g2
   have hmay:=Of hs hM hS hpn hn g2.2
   have hs1:(BR m k s w).sess[k]?=some { s with at_:=s.at_+1 }:=List.getElem?_set_self (by simpa [FC] using Au hs)
   by_cases hl:s.at_+1=s.writes.length
   ·simp only [hl,if_true]
    have:=FY hs1 hmay (r:=1) (t:=0) (by decide) (by decide)
    rw [this]
    simp only [hl];rfl
   ·simp only [hl,if_false];rfl
 rw [if_neg h4,if_neg h4]
 by_cases h5:s.step=5
 ·rw [if_pos h5,if_pos h5]
  have e0:Cg m k=if (BH m.words s.reads).1=true then By m k 5 else (m,0):=by
   unfold Cg;rw [CC hs hM (by omega),Cb hs hM h5]
  rw [e0,Ty hM hS]
  unfold Vw
  simp only
  by_cases hc:s.reads.any (FP m.words)=true
  ·simp only [hc,if_true];rw [FR hs hM (.inr rfl)];rfl
  ·simp only [hc,Bool.false_eq_true,if_false];rfl
 rw [if_neg h5,if_neg h5]
 rfl
end
end Ve
namespace Ve
open Go
structure SI (s:Af):Prop where
 at_:(s.step=1∨s.step=4)→s.at_<s.writes.length
 lvl:(1≤s.step∧s.step≤4)→∀ w∈s.writes,w.level=s.label
 rd:∀ r∈s.reads,AG r.level s.label=true
structure Held (m:Ad) (h:Int) (i:Nat) (w:Al) (s:Af):Prop where
 mem:s∈m.sess
 id:w.lock=s.id+1
 label:s.label=h
 step:1≤s.step∧s.step≤4
 wr:∃ p∈s.writes,p.level=h∧p.index=i
structure Inv (m:Ad):Prop where
 may:Bo m
 sess:∀ s∈m.sess,SI s
 lock:∀ (h:Int) (i:Nat) (w:Al),inR h 3=true→(m.words.get h)[i]?=some w→w.lock≠0→∃ s,Held m h i w s
theorem GJ {α:Type} {l:List α} {k:Nat} {x y t:α} (hs:l[k]?=some x) (hy:y∈l) (hne:y≠x):y∈l.set k t:=by
 obtain ⟨j,hj⟩:=List.getElem?_of_mem hy
 have hjk:k≠j:=by
  rintro rfl
  rw [hs] at hj;cases hj;exact hne rfl
 exact List.mem_of_getElem? (i:=j) (by rw [List.getElem?_set_ne hjk];exact hj)
section
variable {m:Ad} {k:Nat} {s:Af} (hs:m.sess[k]?=some s) (hI:Inv m)
include hs hI
theorem IC {t:Af} (ht:SI t):∀ x∈m.sess.set k t,SI x:=by
 intro x hx
 rcases List.mem_or_eq_of_mem_set hx with h | rfl
 ·exact hI.sess x h
 ·exact ht
theorem Ta {A:Ad} {t:Af} (hA:Bo A) (hw:A.words=(BV (s.id+1) m).words) (hx:A.sess=m.sess.set k t) (ht:SI t):Inv A:=by
 refine ⟨hA,by rw [hx];exact IC hs hI ht,fun h i w hh hg hl=>?_⟩
 rw [hw,Te] at hg
 cases hv:(m.words.get h)[i]? with
 | none=>rw [hv] at hg;cases hg
 | some v =>
  rw [hv,Option.map_some] at hg
  cases hg
  have hne:v.lock≠s.id+1:=by
   intro e;apply hl;unfold Ap;rw [if_pos e]
  have hvw:Ap (s.id+1) v=v:=by unfold Ap;rw [if_neg hne]
  rw [hvw] at hl ⊢
  obtain ⟨s',h1,h2,h3,h4,h5⟩:=hI.lock h i v hh hv hl
  exact ⟨s',by rw [hx];exact GJ hs h1 (fun e=>hne (by rw [h2,e])),h2,h3,h4,h5⟩
theorem FK {A:Ad} {t:Af} (hA:Bo A) (hw:A.words=m.words) (hx:A.sess=m.sess.set k t) (ht:SI t) (h:(1≤s.step∧s.step≤4)→t.id=s.id∧t.label=s.label∧(1≤t.step∧t.step≤4)∧t.writes=s.writes):Inv A:=by
 refine ⟨hA,by rw [hx];exact IC hs hI ht,fun g i w hh hg hl=>?_⟩
 rw [hw] at hg
 obtain ⟨s',h1,h2,h3,h4,h5⟩:=hI.lock g i w hh hg hl
 by_cases e:s'=s
 ·subst e
  obtain ⟨a,b,c,d⟩:=h h4
  exact ⟨t,by rw [hx];exact List.mem_of_getElem? (List.getElem?_set_self (Au hs)),by rw [a];exact h2,by rw [b];exact h3,c,by rw [d];exact h5⟩
 ·exact ⟨s',by rw [hx];exact GJ hs h1 e,h2,h3,h4,h5⟩
theorem ZJ:SI (CT s):=⟨fun h=>(by rcases h with h | h<;>cases h),fun h=>(by simp only [CT] at h;omega),fun r hr=>by simp [CT,Du] at hr⟩
theorem qH (r t:Int):SI (FZ s r t):=⟨fun h=>(by rcases h with h | h<;>cases h),fun h=>(by simp only [FZ] at h;omega),fun r hr=>by simp [FZ,Du] at hr⟩
theorem Kw (kind:Int):Inv (JU m k s kind):=Ta hs hI (TO hs hI.may kind) (Vt kind) (PA kind) (ZJ hs hI)
theorem Hz {r t:Int} (hr:inR r 5=true) (ht:inR t 255=true):Inv (EN m k s r t):=Ta hs hI (Pf hs hI.may hr ht) (LH r t) (JO r t) (qH hs hI r t)
end
end Ve
namespace Ve
open Go
theorem RP {a b c:Int} (ha:inR a 3=true) (hb:inR b 3=true) (hc:inR c 3=true) (h1:AG a b=true) (h2:AG b c=true):AG a c=true:=by
 rcases FI ha with rfl | rfl | rfl | rfl<;>rcases FI hb with rfl | rfl | rfl | rfl<;>rcases FI hc with rfl | rfl | rfl | rfl<;>revert h1 h2<;>decide
section
variable {m:Ad} {k:Nat} {s:Af} (hs:m.sess[k]?=some s) (hI:Inv m)
include hs hI
theorem JN:SP m.words s:=(sp _ _).1 (hI.may.sess s (List.mem_of_getElem? hs))
theorem Kv {t:Af} (e:Bl) (hA:Bo (AT (AA m k t) e)) (ht:SI t) (h:(1≤s.step∧s.step≤4)→t.id=s.id∧t.label=s.label∧(1≤t.step∧t.step≤4)∧t.writes=s.writes):Inv (AT (AA m k t) e) :=
 FK hs hI hA (by rw [Dj];rfl) (by rw [CZ];rfl) ht h
theorem lX (hst:s.step=0) (hA:Bo (Sj m k s)):Inv (Sj m k s):=by
 have hS:=JN hs hI
 have hM:=hI.may
 have hSI:=hI.sess s (List.mem_of_getElem? hs)
 have hno:(1≤s.step∧s.step≤4)→False:=by omega
 have hp:=AR.1 hS.pc
 unfold Sj at hA ⊢
 cases hx:s.prog[s.pc.toNat]? with
 | some x =>
  rw [hx] at hA
  simp only at hA ⊢
  obtain ⟨hxm,_,_⟩:=Dk hS hx
  by_cases hc:x.code=2
  ·rw [if_pos hc] at hA ⊢
   cases hu:AG x.b s.label
   ·rw [hu] at hA
    simp only [Bool.false_eq_true,if_false] at hA ⊢
    unfold Qv at hA ⊢
    by_cases hcl:AG (orI s.label x.b) s.clear=true
    ·rw [if_pos hcl] at hA ⊢
     obtain ⟨o1,o2,_,_⟩:=UD hS.label (Dc hxm (.inl hc)).1
     refine FK hs hI hA RO LR ⟨fun h=>?_,fun h=>(hno h).elim,fun r hr=>?_⟩ (fun h=>(hno h).elim)
     ·simp only at h;omega
     ·have h1:=hSI.rd r hr
      have hrl:inR r.level 3=true:=by
       have:=(Os hS.reads).1 r hr
       simp only [Cw,Bool.and_eq_true] at this;exact this.1.1
      refine RP hrl hS.label o1 h1 ?_
      unfold AG;rw [decide_eq_true_eq]
      have:orI s.label (orI s.label x.b)=orI (orI s.label x.b) s.label:=by simp only [orI,BitVec.or_comm]
      rw [this];exact o2
    ·rw [if_neg hcl];exact Hz hs hI (by decide) (by decide)
   ·rw [hu] at hA
    simp only [if_true] at hA ⊢
    unfold Qt at hA ⊢
    by_cases h1:(Bs x.b x.c s.writes).2=true
    ·rw [if_pos h1] at hA ⊢
     refine Kv hs hI _ hA ⟨fun h=>?_,fun h=>(hno h).elim,hSI.rd⟩ (fun h=>(hno h).elim)
     simp only [Cp] at h;omega
    ·rw [if_neg h1] at hA ⊢
     by_cases h2:s.reads.all (Cz m.words s.id)=true∧(Bx m.words x.b x.c).lock=0
     ·rw [if_pos h2] at hA ⊢
      refine Kv hs hI _ hA ⟨fun h=>?_,fun h=>(hno h).elim,fun r hr=>?_⟩ (fun h=>(hno h).elim)
      ·simp only [Cp] at h;omega
      ·show AG r.level s.label=true
       simp only [Cp,JX] at hr
       split at hr
       ·exact hSI.rd r hr
       ·rcases List.mem_append.1 hr with hr | hr
        ·exact hSI.rd r hr
        ·simp only [List.mem_singleton] at hr;subst hr;exact hu
     ·rw [if_neg h2];exact Kw hs hI 3
  ·rw [if_neg hc] at hA ⊢
   by_cases hc:x.code=3
   ·rw [if_pos hc] at hA ⊢
    unfold TZ at hA ⊢
    refine Kv hs hI _ hA ⟨fun h=>?_,fun h=>(hno h).elim,hSI.rd⟩ (fun h=>(hno h).elim)
    simp only at h;omega
   ·rw [if_neg hc] at hA ⊢
    by_cases hc:x.code=5
    ·rw [if_pos hc] at hA ⊢
     unfold bH at hA ⊢
     refine Kv hs hI _ hA ⟨fun h=>?_,fun h=>?_,hSI.rd⟩ (fun h=>(hno h).elim)
     ·simp only at h;omega
     ·simp only at h;omega
    ·rw [if_neg hc] at hA ⊢
     by_cases hc:x.code=6
     ·rw [if_pos hc];exact Hz hs hI (by decide) (KZ hxm hc)
     ·rw [if_neg hc] at hA ⊢
      unfold fC at hA ⊢
      by_cases h0:x.code=0
      ·rw [if_pos h0] at hA ⊢
       exact FK hs hI hA rfl rfl ⟨fun h=>(by simp only at h;omega),fun h=>(hno h).elim,hSI.rd⟩ (fun h=>(hno h).elim)
      ·rw [if_neg h0] at hA ⊢
       by_cases h1:x.code=1
       ·rw [if_pos h1] at hA ⊢
        exact FK hs hI hA rfl rfl ⟨fun h=>(by simp only at h;omega),fun h=>(hno h).elim,hSI.rd⟩ (fun h=>(hno h).elim)
       ·rw [if_neg h1] at hA ⊢
        exact FK hs hI hA rfl rfl ⟨fun h=>(by simp only at h;omega),fun h=>(hno h).elim,hSI.rd⟩ (fun h=>(hno h).elim)
 | none =>
  rw [hx] at hA
  simp only at hA ⊢
  unfold dD at hA ⊢
  by_cases h:(s.writes.all fun w=>decide (w.level=s.label))=true
  ·rw [if_pos h] at hA ⊢
   refine FK hs hI hA rfl rfl ⟨fun h'=>?_,fun _ w hw=>?_,hSI.rd⟩ (fun h=>(hno h).elim)
   ·simp only at h' ⊢
    by_cases hw:s.writes=[]
    ·simp only [hw,if_true] at h';omega
    ·have:=List.length_pos_iff.2 hw;omega
   ·have:=(List.all_eq_true.1 h) w hw
    simpa using this
  ·rw [if_neg h];exact Hz hs hI (by decide) (by decide)
theorem dM (hst:s.step=1):∃ A,Wq m k s=some A∧(Bo A→Inv A):=by
 have hS:=JN hs hI
 have hSI:=hI.sess s (List.mem_of_getElem? hs)
 have hat:=AR.1 hS.at_
 have hlt:=hSI.at_ (.inl hst)
 have hn:s.at_.toNat<s.writes.length:=by omega
 unfold Wq
 rw [List.getElem?_eq_getElem hn]
 refine ⟨_,rfl,fun hA=>?_⟩
 have hmem:s.writes[s.at_.toNat]∈s.writes:=List.getElem_mem hn
 generalize s.writes[s.at_.toNat]=w at hmem hA ⊢
 have hid:=AR.1 hS.id
 by_cases hl:(Bx m.words w.level w.index).lock=0
 ·rw [if_pos hl] at hA ⊢
  have hw1:=(Ci hS.writes).1 w hmem
  simp only [Az,Bool.and_eq_true] at hw1
  have hlv:=hSI.lvl (by omega) w hmem
  have ht:SI { s with at_:=s.at_+1,step:=if s.at_+1=s.writes.length then 2 else s.step }:=by
   refine ⟨fun h=>?_,fun _=>hSI.lvl (by omega),hSI.rd⟩
   simp only at h ⊢
   by_cases hc:s.at_+1=s.writes.length
   ·rw [if_pos hc] at h;omega
   ·omega
  have hstep:1≤(if s.at_+1=(s.writes.length:Int) then (2:Int) else s.step)∧(if s.at_+1=(s.writes.length:Int) then (2:Int) else s.step)≤4:=by
   split<;>omega
  refine ⟨hA,IC hs hI ht,fun h i v hh hg hlk=>?_⟩
  have hk:=Au hs
  have hmt:({ s with at_:=s.at_+1,step:=if s.at_+1=s.writes.length then 2 else s.step }:Af)∈m.sess.set k { s with at_:=s.at_+1,step:=if s.at_+1=s.writes.length then 2 else s.step }:=List.mem_of_getElem? (List.getElem?_set_self hk)
  have hlen:i<((Ff m.words w.level w.index { Bx m.words w.level w.index with lock:=s.id+1 }).get h).length:=Au hg
  obtain ⟨q0,q1,q2,q3⟩:=Ij m.words w.level w.index { Bx m.words w.level w.index with lock:=s.id+1 }
  rw [Nf q0 q1 q2 q3] at hlen
  have hv:=List.getElem?_eq_getElem hlen
  have hr:=IH m.words w { Bx m.words w.level w.index with lock:=s.id+1 } h i _ hh hw1.1.1 (by have:=hw1.1.2;rw [AR] at this;exact this.1) hv
  have hg':((Ff m.words w.level w.index { Bx m.words w.level w.index with lock:=s.id+1 }).get h)[i]?=some v:=hg
  rw [hr] at hg'
  cases hg'
  by_cases hc:(decide (h=w.level)&&decide ((i:Int)=w.index))=true
  ·rw [if_pos hc] at hlk ⊢
   simp only [Bool.and_eq_true,decide_eq_true_eq] at hc
   exact ⟨_,hmt,rfl,by rw [hc.1];exact hlv.symm,hstep,w,hmem,hc.1.symm,hc.2.symm⟩
  ·rw [if_neg hc] at hlk ⊢
   obtain ⟨s',h1,h2,h3,h4,h5⟩:=hI.lock h i _ hh hv hlk
   by_cases e:s'=s
   ·subst e;exact ⟨_,hmt,h2,h3,hstep,h5⟩
   ·exact ⟨s',GJ hs h1 e,h2,h3,h4,h5⟩
 ·rw [if_neg hl];exact Kw hs hI 3
theorem YQ (hst:s.step=2) (hA:Bo (Ms m k s)):Inv (Ms m k s):=by
 have hSI:=hI.sess s (List.mem_of_getElem? hs)
 unfold Ms at hA ⊢
 by_cases hc:m.ceil≤m.clocks.get s.label
 ·rw [if_pos hc];exact Hz hs hI (by decide) (by decide)
 ·rw [if_neg hc] at hA ⊢
  exact FK hs hI hA rfl rfl ⟨fun h=>(by simp only at h;omega),fun _=>hSI.lvl (by omega),hSI.rd⟩ (fun _=>⟨rfl,rfl,by simp only;omega,rfl⟩)
theorem YR (hst:s.step=3) (hA:Bo (Ns m k s)):Inv (Ns m k s):=by
 have hSI:=hI.sess s (List.mem_of_getElem? hs)
 unfold Ns at hA ⊢
 by_cases hg:s.reads.all (Cz m.words s.id)=true
 ·rw [if_pos hg] at hA ⊢
  by_cases hw:s.writes=[]
  ·rw [if_pos hw];exact Hz hs hI (by decide) (by decide)
  ·rw [if_neg hw] at hA ⊢
   have:=List.length_pos_iff.2 hw
   exact FK hs hI hA rfl rfl ⟨fun _=>(by simp only;omega),fun _=>hSI.lvl (by omega),hSI.rd⟩ (fun _=>⟨rfl,rfl,by simp only;omega,rfl⟩)
 ·rw [if_neg hg];exact Kw hs hI 3
theorem YP {w:Ak} (hst:s.step=4) (hmem:w∈s.writes) (hA:Bo (BR m k s w)) (hlt:s.at_+1<s.writes.length∨True) (ht:SI { s with at_:=s.at_+1 }):Inv (BR m k s w):=by
 have hS:=JN hs hI
 have hw1:=(Ci hS.writes).1 w hmem
 simp only [Az,Bool.and_eq_true] at hw1
 have hk:=Au hs
 refine ⟨hA,IC hs hI ht,fun h i v hh hg hlk=>?_⟩
 have hmt:({ s with at_:=s.at_+1 }:Af)∈m.sess.set k { s with at_:=s.at_+1 }:=List.mem_of_getElem? (List.getElem?_set_self hk)
 obtain ⟨q0,q1,q2,q3⟩:=Ij m.words w.level w.index ⟨w.val,s.stamp,0⟩
 have hlen:i<((Ff m.words w.level w.index ⟨w.val,s.stamp,0⟩).get h).length:=Au hg
 rw [Nf q0 q1 q2 q3] at hlen
 have hv:=List.getElem?_eq_getElem hlen
 have hr:=IH m.words w ⟨w.val,s.stamp,0⟩ h i _ hh hw1.1.1 (by have:=hw1.1.2;rw [AR] at this;exact this.1) hv
 have hg':((Ff m.words w.level w.index ⟨w.val,s.stamp,0⟩).get h)[i]?=some v:=hg
 rw [hr] at hg'
 cases hg'
 by_cases hc:(decide (h=w.level)&&decide ((i:Int)=w.index))=true
 ·rw [if_pos hc] at hlk;exact absurd rfl hlk
 ·rw [if_neg hc] at hlk ⊢
  obtain ⟨s',h1,h2,h3,h4,h5⟩:=hI.lock h i _ hh hv hlk
  by_cases e:s'=s
  ·subst e;exact ⟨_,hmt,h2,h3,h4,h5⟩
  ·exact ⟨s',GJ hs h1 e,h2,h3,h4,h5⟩
theorem dN {w:Ak} (hmem:w∈s.writes) (hA:Bo (EN (BR m k s w) k { s with at_:=s.at_+1 } 1 0)):Inv (EN (BR m k s w) k { s with at_:=s.at_+1 } 1 0):=by
 have hS:=JN hs hI
 have hw1:=(Ci hS.writes).1 w hmem
 simp only [Az,Bool.and_eq_true] at hw1
 have hk:=Au hs
 have hse:(EN (BR m k s w) k { s with at_:=s.at_+1 } 1 0).sess=m.sess.set k (FZ { s with at_:=s.at_+1 } 1 0):=by
  rw [JO];simp [BR,AA,FC]
 refine ⟨hA,by rw [hse];exact IC hs hI ⟨fun h=>(by rcases h with h | h<;>cases h),fun h=>(by simp only [FZ] at h;omega),fun r hr=>by simp [FZ,Du] at hr⟩,fun h i v hh hg hlk=>?_⟩
 rw [LH,Te] at hg
 obtain ⟨q0,q1,q2,q3⟩:=Ij m.words w.level w.index ⟨w.val,s.stamp,0⟩
 cases hv:((BR m k s w).words.get h)[i]? with
 | none=>rw [hv] at hg;cases hg
 | some u =>
  rw [hv,Option.map_some] at hg
  cases hg
  have hne:u.lock≠s.id+1:=by
   intro e;apply hlk;show (Ap (s.id+1) u).lock=0;unfold Ap;rw [if_pos e]
  have huw:Ap (s.id+1) u=u:=by unfold Ap;rw [if_neg hne]
  have hlk':u.lock≠0:=by
   intro e;apply hlk;show (Ap (s.id+1) u).lock=0;rw [huw];exact e
  show ∃ s',Held _ h i (Ap (s.id+1) u) s'
  rw [huw]
  have hlen:i<((Ff m.words w.level w.index ⟨w.val,s.stamp,0⟩).get h).length:=Au hv
  rw [Nf q0 q1 q2 q3] at hlen
  have hv0:=List.getElem?_eq_getElem hlen
  have hr:=IH m.words w ⟨w.val,s.stamp,0⟩ h i _ hh hw1.1.1 (by have:=hw1.1.2;rw [AR] at this;exact this.1) hv0
  have hv':((Ff m.words w.level w.index ⟨w.val,s.stamp,0⟩).get h)[i]?=some u:=hv
  rw [hr] at hv'
  cases hv'
  by_cases hc:(decide (h=w.level)&&decide ((i:Int)=w.index))=true
  ·rw [if_pos hc] at hlk';exact absurd rfl hlk'
  ·rw [if_neg hc] at hlk' hne ⊢
   obtain ⟨s',h1,h2,h3,h4,h5⟩:=hI.lock h i _ hh hv0 hlk'
   exact ⟨s',by rw [hse];exact GJ hs h1 (fun e=>hne (by rw [h2,e])),h2,h3,h4,h5⟩
theorem dO (hst:s.step=4):∃ A,Xx m k s=some A∧(Bo A→Inv A):=by
 have hS:=JN hs hI
 have hSI:=hI.sess s (List.mem_of_getElem? hs)
 have hat:=AR.1 hS.at_
 have hlt:=hSI.at_ (.inr hst)
 have hn:s.at_.toNat<s.writes.length:=by omega
 unfold Xx
 rw [List.getElem?_eq_getElem hn]
 refine ⟨_,rfl,fun hA=>?_⟩
 have hmem:s.writes[s.at_.toNat]∈s.writes:=List.getElem_mem hn
 generalize s.writes[s.at_.toNat]=w at hmem hA ⊢
 by_cases hl:s.at_+1=s.writes.length
 ·rw [if_pos hl] at hA ⊢;exact dN hs hI hmem hA
 ·rw [if_neg hl] at hA ⊢
  exact YP hs hI hst hmem hA (.inr trivial) ⟨fun _=>(by simp only;omega),fun _=>hSI.lvl (by omega),hSI.rd⟩
theorem Hy:∃ A,BL m k=(A,0)∧Fg m k s=some A∧Inv A∧∃ t,Et m A k s t:=by
 have hS:=JN hs hI
 have hM:=hI.may
 have he:=gX hs hM hS
 have key:∀ A,Fg m k s=some A→(Bo A→Inv A)→∃ A,BL m k=(A,0)∧Fg m k s=some A∧Inv A∧∃ t,Et m A k s t:=by
  intro A hA hi
  rw [hA] at he
  obtain ⟨t,ht⟩:=Ii hs hM hS (by rw [he])
  rw [he] at ht
  exact ⟨A,he,hA,hi ht.may,t,ht⟩
 by_cases h0:s.step=0
 ·exact key _ (by unfold Fg;rw [if_pos h0]) (lX hs hI h0)
 by_cases h1:s.step=1
 ·obtain ⟨A,hA,hi⟩:=dM hs hI h1
  exact key A (by unfold Fg;rw [if_neg h0,if_pos h1];exact hA) hi
 by_cases h2:s.step=2
 ·exact key _ (by unfold Fg;rw [if_neg h0,if_neg h1,if_pos h2]) (YQ hs hI h2)
 by_cases h3:s.step=3
 ·exact key _ (by unfold Fg;rw [if_neg h0,if_neg h1,if_neg h2,if_pos h3]) (YR hs hI h3)
 by_cases h4:s.step=4
 ·obtain ⟨A,hA,hi⟩:=dO hs hI h4
  exact key A (by unfold Fg;rw [if_neg h0,if_neg h1,if_neg h2,if_neg h3,if_pos h4];exact hA) hi
 by_cases h5:s.step=5
 ·refine key (Vw m k s) (by unfold Fg;rw [if_neg h0,if_neg h1,if_neg h2,if_neg h3,if_neg h4,if_pos h5]) (fun _=>?_)
  unfold Vw
  split
  ·exact Kw hs hI 5
  ·exact hI
 ·exact key m (by unfold Fg;rw [if_neg h0,if_neg h1,if_neg h2,if_neg h3,if_neg h4,if_neg h5]) (fun _=>hI)
end
end Ve
namespace Ve
open Go
def DD (x:BW):Bool:=inR x.level 3&&inR x.pick 255
def NS (l:Int) (s:Af):Bool:=decide (s.label=l)&&!decide (s.step=6)
def Ed (l:Int):Nat→List Af→List Nat
 | _,[]=>[]
 | k,s::r=>if NS l s=true then k::Ed l (k+1) r else Ed l (k+1) r
def NR (m:Ad) (l:Int):List Nat:=Ed l 0 m.sess
def Fj (m:Ad) (x:BW):Int × Bool × Int :=
 if (Ei m&&DD x)=true then
  match (NR m x.level)[x.pick.toNat % (NR m x.level).length]? with
  | some k=>((k:Nat),true,0)
  | none=>(0,false,0)
 else (0,false,2400)
def BM (m:Ad) (x:BW):Ad × Int :=
 if (Fj m x).2.2=0 then
  if (Fj m x).2.1=true then (if (BL m (Fj m x).1).2=0 then ((BL m (Fj m x).1).1,0) else (AN,2400)) else (m,0)
 else (AN,2400)
def CD:Ad→List BW→Ad × Int
 | m,[]=>(m,0)
 | m,x::r=>if (BM m x).2=0 then CD (BM m x).1 r else (AN,2500)
def Cf (s:AQ):Bool:=decide ((Ea s).2=0)&&decide (s.slots.length≤256)&&s.slots.all DD
def Ho (s:AQ):Ad × Int:=if Cf s=true then CD (Ea s).1 s.slots else (AN,2500)
def RF (g l:Int) (row:List Int):List Int:=if AG g l=true then row else row.map fun _=>0
def pM:AQ:=⟨⟨[],[],[],[]⟩,0,[],[]⟩
def vO (s:AQ) (l:Int):AQ:=⟨⟨RF 0 l s.words.a0,RF 1 l s.words.a1,RF 2 l s.words.a2,RF 3 l s.words.a3⟩,s.ceil,s.starts.filter fun x=>AG x.label l,s.slots.filter fun x=>AG x.level l⟩
def belowM (s:AQ) (l:Int):AQ × Int:=if (Cf s&&inR l 3)=true then (vO s l,0) else (pM,2500)
def VC {α:Type} (g l:Int) (row:List α):List α:=if AG g l=true then row else []
def VD (g l:Int) (c:Int):Int:=if AG g l=true then c else 0
def wR (m:Ad) (l:Int):Ad:=⟨⟨VC 0 l m.words.a0,VC 1 l m.words.a1,VC 2 l m.words.a2,VC 3 l m.words.a3⟩,⟨VD 0 l m.clocks.a0,VD 1 l m.clocks.a1,VD 2 l m.clocks.a2,VD 3 l m.clocks.a3⟩,m.ceil,m.sess.filter fun x=>AG x.label l,m.trace.filter fun x=>AG x.label l⟩
def seenM (m:Ad) (l:Int):Ad × Int:=if (Ei m&&inR l 3)=true then (wR m l,0) else (AN,2500)
end Ve
namespace Ve
open Go
theorem IY:∀ (l:List Af) (g:Int) (b:Nat) (k:Nat),k∈Ed g b l→∃ s,b≤k∧l[k - b]?=some s∧NS g s=true
 | [],g,b,k,h=>by simp [Ed] at h
 | a::r,g,b,k,h=>by
  unfold Ed at h
  by_cases ht:NS g a=true
  ·rw [if_pos ht] at h
   rcases List.mem_cons.1 h with rfl | h
   ·exact ⟨a,Nat.le_refl _,by simp,ht⟩
   ·obtain ⟨s,h1,h2,h3⟩:=IY r g (b+1) k h
    refine ⟨s,by omega,?_,h3⟩
    rw [show k - b=(k - (b+1))+1 by omega];exact h2
  ·rw [if_neg ht] at h
   obtain ⟨s,h1,h2,h3⟩:=IY r g (b+1) k h
   refine ⟨s,by omega,?_,h3⟩
   rw [show k - b=(k - (b+1))+1 by omega];exact h2
theorem XE {m:Ad} (hM:Bo m) {x:BW} (hx:DD x=true):Fj m x=(0,false,0)∨∃ (k:Nat) (s:Af),Fj m x=((k:Int),true,0)∧m.sess[k]?=some s∧s.label=x.level∧s.step≠6:=by
 unfold Fj
 rw [(UJ m).2 hM,hx]
 simp only [Bool.and_self,if_true]
 cases h:(NR m x.level)[x.pick.toNat % (NR m x.level).length]? with
 | none=>exact .inl rfl
 | some k =>
  right
  obtain ⟨s,_,h2,h3⟩:=IY m.sess x.level 0 k (List.mem_of_getElem? h)
  simp only [NS,Bool.and_eq_true,decide_eq_true_eq,Bool.not_eq_true',decide_eq_false_iff_not] at h3
  exact ⟨k,s,rfl,by simpa using h2,h3.1,h3.2⟩
theorem Uc {m:Ad} (hI:Inv m) {x:BW} (hx:DD x=true):BM m x=(m,0)∨∃ (k:Nat) (s t:Af) (A:Ad),Fj m x=((k:Int),true,0)∧m.sess[k]?=some s∧s.label=x.level∧s.step≠6∧BM m x=(A,0)∧BL m k=(A,0)∧Fg m k s=some A∧Inv A∧Et m A k s t:=by
 rcases XE hI.may hx with h | ⟨k,s,h,hs,hl,hst⟩
 ·left;unfold BM;rw [h];rfl
 ·right
  obtain ⟨A,h1,h2,h3,t,h4⟩:=Hy hs hI
  refine ⟨k,s,t,A,h,hs,hl,hst,?_,h1,h2,h3,h4⟩
  unfold BM;rw [h];simp only [if_true,h1]
theorem ZI {m:Ad} (hI:Inv m) {x:BW} (hx:DD x=true):(BM m x).2=0∧Inv (BM m x).1∧(BM m x).1.trace.length≤m.trace.length+1∧(BM m x).1.sess.length=m.sess.length∧(BM m x).1.ceil=m.ceil:=by
 rcases Uc hI hx with h | ⟨k,s,t,A,_,hs,_,_,h,_,_,hA,hL⟩
 ·rw [h];exact ⟨rfl,hI,Nat.le_succ _,rfl,rfl⟩
 ·rw [h]
  refine ⟨rfl,hA,?_,by rw [hL.sess];simp,hL.ceil⟩
  rcases hL.trace with e | ⟨e,h1,_⟩
  ·rw [e];exact Nat.le_succ _
  ·rw [h1];simp
theorem YD (s:AQ):(Ea s=(Ce s,0)∧Ei (Ce s)=true)∨Ea s=(AN,1200):=by
 unfold Ea
 split
 ·rename_i h
  simp only [Bool.and_eq_true] at h
  exact .inl ⟨rfl,h.2⟩
 ·exact .inr rfl
theorem Qj {s:AQ} (h:Ei (Ce s)=true):Inv (Ce s):=by
 refine ⟨(UJ _).1 h,?_,?_⟩
 ·intro x hx
  simp only [Ce,List.mem_map] at hx
  obtain ⟨y,_,rfl⟩:=hx
  exact ⟨fun h=>(by rcases h with h | h<;>cases h),fun h=>(by simp only [DJ] at h;omega),fun r hr=>by simp [DJ] at hr⟩
 ·intro g i w hg hw hl
  exfalso;apply hl
  have:∀ l:List Int,(l.map Gl)[i]?=some w→w.lock=0:=by
   intro l h
   rw [List.getElem?_map] at h
   cases hq:l[i]? with
   | none=>rw [hq] at h;cases h
   | some v=>rw [hq] at h;cases h;rfl
  simp only [Ce,FH] at hw
  unfold A4.get at hw
  split at hw
  ·exact this _ hw
  ·split at hw
   ·exact this _ hw
   ·split at hw
    ·exact this _ hw
    ·exact this _ hw
theorem VF:∀ (l:List BW) (m:Ad),Inv m→l.all DD=true→(CD m l).2=0∧Inv (CD m l).1∧(CD m l).1.trace.length≤m.trace.length+l.length∧(CD m l).1.sess.length=m.sess.length∧(CD m l).1.ceil=m.ceil
 | [],m,hI,_=>⟨rfl,hI,by simp [CD],rfl,rfl⟩
 | x::r,m,hI,h=>by
  simp only [List.all_cons,Bool.and_eq_true] at h
  obtain ⟨h1,h2,h3,h4,h5⟩:=ZI hI h.1
  obtain ⟨g1,g2,g3,g4,g5⟩:=VF r (BM m x).1 h2 h.2
  unfold CD
  rw [if_pos h1]
  exact ⟨g1,g2,by simp only [List.length_cons];omega,by rw [g4,h4],by rw [g5,h5]⟩
theorem Sa {s:AQ} (h:Cf s=true):Ea s=(Ce s,0)∧Inv (Ce s)∧Ho s=((CD (Ce s) s.slots).1,0)∧Inv (CD (Ce s) s.slots).1∧(CD (Ce s) s.slots).1.trace.length≤256:=by
 have h':=h
 simp only [Cf,Bool.and_eq_true,decide_eq_true_eq] at h
 rcases YD s with ⟨e,hm⟩ | e
 ·have hI:=Qj hm
  obtain ⟨g1,g2,g3,_,_⟩:=VF s.slots (Ce s) hI h.2
  refine ⟨e,hI,?_,g2,?_⟩
  ·unfold Ho;rw [if_pos h',e]
   have:CD (Ce s) s.slots=((CD (Ce s) s.slots).1,0):=by rw [← g1]
   simp only
   exact this
  ·have:(Ce s).trace.length=0:=rfl
   omega
 ·rw [e] at h;exact absurd h.1.1 (by decide)
end Ve
namespace Ve
open Go
theorem hQ {ws:A4 (List Al)} {s:Af} (h:SP ws s):SmS s:=by
 have h1:=h.prog
 have h2:=h.reads
 have h3:=h.writes
 simp only [Dn,AJ,AS,Bool.and_eq_true,decide_eq_true_eq] at h1 h2 h3
 exact ⟨by omega,by omega,by omega⟩
theorem DW {m:Ad} (h:Bo m):SmM m:=by
 have ha:=h.arena
 simp only [AP,A4.all,Co,Bool.and_eq_true,decide_eq_true_eq] at ha
 have h1:=h.sl
 have h2:=h.tl
 exact ⟨by omega,by omega,by omega,by omega,by omega,by omega,fun s hs=>hQ ((sp _ _).1 (h.sess s hs))⟩
theorem gZ {m:Ad} (hm:SmM m) (at_:Int):SmM (BL m at_).1:=by
 rcases Ft m at_ with h | ⟨k,s,rfl,hs,hM,hS⟩
 ·have:BL m at_=(AN,2300):=by unfold BL;rw [h];rfl
  rw [this];exact Gi
 ·by_cases h0:(BL m k).2=0
  ·obtain ⟨t,ht⟩:=Ii hs hM hS h0
   exact DW ht.may
  ·have:(BL m k).1=AN:=by
    unfold BL at h0 ⊢
    split at h0
    ·rename_i hh
     simp only [hh,if_true] at h0 ⊢
     simp only [Int.toNat_natCast,hs] at h0 ⊢
     split at h0
     ·exact absurd rfl h0
     ·rename_i h1;rw [if_neg h1]
    ·rename_i hh;rw [if_neg hh]
   rw [this];exact Gi
def itM (k:Nat):Nat→Ad→Ad
 | 0,m=>m
 | n+1,m=>(BL (itM k n m) k).1
def itU (k:Nat):Nat→Ad→Ad
 | 0,m=>m
 | n+1,m=>match (itU k n m).sess[k]? with
  | some s=>((Fg (itU k n m) k s).getD AN)
  | none=>AN
theorem tH {k:Nat} {m:Ad} (hI:Inv m) (hk:k<m.sess.length):∀ n,Inv (itM k n m)∧(itM k n m).sess.length=m.sess.length∧itM k n m=itU k n m∧(BL (itM k n m) k).2=0
 | n=>by
  have DC:Inv (itM k n m)∧(itM k n m).sess.length=m.sess.length∧itM k n m=itU k n m:=by
   induction n with
   | zero=>exact ⟨hI,rfl,rfl⟩
   | succ n ih =>
    obtain ⟨h1,h2,h3⟩:=ih
    obtain ⟨s,hs⟩:∃ s,(itM k n m).sess[k]?=some s:=⟨_,List.getElem?_eq_getElem (by omega)⟩
    obtain ⟨A,a1,a2,a3,t,a4⟩:=Hy hs h1
    simp only [itM,itU]
    rw [← h3,hs,a1]
    simp only [a2,Option.getD_some]
    exact ⟨a3,by rw [a4.sess,List.length_set];exact h2,trivial⟩
  obtain ⟨h1,h2,h3⟩:=DC
  obtain ⟨s,hs⟩:∃ s,(itM k n m).sess[k]?=some s:=⟨_,List.getElem?_eq_getElem (by omega)⟩
  obtain ⟨A,a1,_⟩:=Hy hs h1
  exact ⟨h1,h2,h3,by rw [a1]⟩
end Ve
namespace Ve
open Go
theorem BN {thr:Nat} {live:List Nat} {f:St→(Out→St→Option Ans)→Option Ans} {q:Out→St→Option Ans} {k:Nat} {s s':St} {Q:V→Hp→Nat→Prop} {u:Dum f} {w:Dum q} (e:MS thr live s'=MS thr live s):GL thr live f q k s' Q u w=GL thr live f q k s Q u w:=by
 cases k with
 | zero=>rfl
 | succ k =>
  rw [gLs,gLs]
  simp only [GN,GH]
  rw [e]
end Ve
