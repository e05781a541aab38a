/- Scripts of which words, programs, slots are others: may they be, what is the same below. -/
import Derived.Test.YthllnfkddiaokaaGreatVeP
set_option linter.all false
set_option linter.unusedSectionVars false
namespace Ve
open Go
theorem QR {s:Ap} (h:Az s=true) {W:A4 (List Int)} (hv:Bw W=true) (h0:W.a0.length=s.words.a0.length) (h1:W.a1.length=s.words.a1.length) (h2:W.a2.length=s.words.a2.length) (h3:W.a3.length=s.words.a3.length)
  {l:List AO} (hl:l.length≤256) (ha:l.all AF=true):Az ⟨W,s.ceil,s.starts,l⟩=true:=by
 simp only [Az,Bool.and_eq_true,decide_eq_true_eq] at h
 have hn:s.starts.all Bz=true∧De (AC s)=true:=by
  have:=h.1.1
  unfold Ci at this
  split at this
  ·rename_i hc;simp only [Bool.and_eq_true] at hc;exact ⟨hc.1.2,hc.2⟩
  ·exact absurd this (by decide)
 obtain ⟨hst,hm⟩:=hn
 have hM:=(LS _).1 hm
 have hm':De (AC ⟨W,s.ceil,s.starts,l⟩)=true:=by
  rw [LS]
  have hv2:=hv
  simp only [Bw,A4.all,Bool.and_eq_true] at hv2
  have hth:∀ l' i,Ay (AC ⟨W,s.ceil,s.starts,l⟩).words l' i=Ay (AC s).words l' i:=fun l' i=>Hk (by simp [AC,Bf,h0]) (by simp [AC,Bf,h1]) (by simp [AC,Bf,h2]) (by simp [AC,Bf,h3]) l' i
  refine ⟨?_,hM.ceil,hM.clocks,hM.sl,by simp [AC],hM.ids,?_,by simp [AC]⟩
  ·simp only [AS,A4.all,AC,Bf,Bool.and_eq_true]
   exact ⟨⟨⟨DV hv2.1.1.1,DV hv2.1.1.2⟩,DV hv2.1.2⟩,DV hv2.2⟩
  ·intro x hx
   rw [FZ hth]
   exact hM.sess x hx
 simp only [Az,Bool.and_eq_true,decide_eq_true_eq]
 refine ⟨⟨?_,hl⟩,ha⟩
 unfold Ci;rw [hv,hst,hm'];rfl
theorem Pl {s:Ap} (h:Az s=true):Bw s.words=true:=by
 simp only [Az,Bool.and_eq_true,decide_eq_true_eq] at h
 have:=h.1.1
 unfold Ci at this
 split at this
 ·rename_i hc;simp only [Bool.and_eq_true] at hc;exact hc.1.1
 ·exact absurd this (by decide)
theorem Kr {s:Ap} (h:Az s=true):s.slots.length≤256∧s.slots.all AF=true:=by
 simp only [Az,Bool.and_eq_true,decide_eq_true_eq] at h
 exact ⟨h.1.2,h.2⟩
theorem IF {l:List Int} (h:Cq l=true) (j:Nat) {v:Int} (hv:inR v 255=true):Cq (l.set j v)=true:=by
 simp only [Cq,Bool.and_eq_true,decide_eq_true_eq,List.length_set,List.all_eq_true] at h ⊢
 exact ⟨h.1,fun x hx=>(List.mem_or_eq_of_mem_set hx).elim (h.2 x) (fun e=>e▸hv)⟩
theorem gJ {W:A4 (List Int)} (h:Bw W=true) {g:Int} (j:Nat) {v:Int} (hv:inR v 255=true):Bw (W.set g ((W.get g).set j v))=true:=by
 simp only [Bw,A4.all,Bool.and_eq_true] at h ⊢
 obtain ⟨⟨⟨h0,h1⟩,h2⟩,h3⟩:=h
 unfold A4.set A4.get
 split
 ·exact ⟨⟨⟨IF h0 j hv,h1⟩,h2⟩,h3⟩
 ·split
  ·exact ⟨⟨⟨h0,IF h1 j hv⟩,h2⟩,h3⟩
  ·split
   ·exact ⟨⟨⟨h0,h1⟩,IF h2 j hv⟩,h3⟩
   ·exact ⟨⟨⟨h0,h1⟩,h2⟩,IF h3 j hv⟩
def OW (s:Ap) (h:Int) (j:Nat) (v:Int):Ap:=⟨s.words.set h ((s.words.get h).set j v),s.ceil,s.starts,s.slots⟩
theorem UY (W:A4 (List Int)) (h:Int) (j:Nat) (v:Int):(W.set h ((W.get h).set j v)).a0.length=W.a0.length∧(W.set h ((W.get h).set j v)).a1.length=W.a1.length∧(W.set h ((W.get h).set j v)).a2.length=W.a2.length∧(W.set h ((W.get h).set j v)).a3.length=W.a3.length:=by
 unfold A4.set A4.get
 split
 ·simp
 ·split
  ·simp
  ·split<;>simp
theorem jL {s:Ap} (hs:Az s=true) (h:Int) (j:Nat) {v:Int} (hv:inR v 255=true):Az (OW s h j v)=true:=by
 obtain ⟨e0,e1,e2,e3⟩:=UY s.words h j v
 obtain ⟨l1,l2⟩:=Kr hs
 exact QR hs (gJ (Pl hs) j hv) e0 e1 e2 e3 l1 l2
theorem cF {s:Ap} {h k:Int} (hh:inR h 3=true) (hu:Ao h k=false) (j:Nat) (v:Int):RZ k s (OW s h j v):=by
 refine ⟨rfl,fun a ha hua=>?_,rfl,rfl⟩
 have hne:a≠h:=by rintro rfl;rw [hu] at hua;cases hua
 rcases ER ha with rfl | rfl | rfl | rfl<;>rcases ER hh with rfl | rfl | rfl | rfl<;>first | exact absurd rfl hne | rfl
theorem YB {s:Ap} (hs:Cj s) (h:Int) (j:Nat) (v:Int):Cj (OW s h j v):=by
 obtain ⟨b0,b1,b2,b3,bst,bsl,p⟩:=hs
 obtain ⟨e0,e1,e2,e3⟩:=UY s.words h j v
 exact ⟨by simp only [OW];omega,by simp only [OW];omega,by simp only [OW];omega,by simp only [OW];omega,bst,bsl,p⟩
def Cg (k:Int) (picks:List Int) (j:Nat):List AO :=
 match picks[j]? with
 | some p=>if Ao (Df p 3) k=true then [] else [⟨Df p 3,Df (p.fdiv (2 ^ min (2:Int).toNat (IntKind.bits .i64))) 255⟩]
 | none=>[]
def Gp (k:Int) (small:Bool) (picks:List Int):Nat→List AO→List AO
 | _,[]=>[]
 | j,x::r=>if Ao x.level k=true then (if small=true then Cg k picks j else [])++x::Gp k small picks (j+1) r else Gp k small picks (j+1) r
def Im (k:Int) (picks:List Int):Nat→List AO→List AO
 | _,[]=>[]
 | j,x::r=>Cg k picks j++((if Ao x.level k=true then [x] else [])++Im k picks (j+1) r)
theorem VX (k:Int) (picks:List Int) (j:Nat):(Cg k picks j).length≤1:=by
 unfold Cg;split
 ·split<;>simp
 ·simp
theorem eL {k:Int} (hk:inR k 3=true) (picks:List Int) (j:Nat):(Cg k picks j).all AF=true:=by
 unfold Cg;split
 ·split
  ·rfl
  ·rename_i p _ _
   have h1:=GY p 3 (by omega)
   have h2:=GY (p.fdiv (2 ^ min (2:Int).toNat (IntKind.bits .i64))) 255 (by omega)
   simp only [List.all_cons,List.all_nil,Bool.and_true,AF]
   rw [show inR (Df p ((3:Nat):Int)) ((3:Nat):Int)=inR (Df p 3) 3 from rfl] at h1
   rw [show inR (Df (p.fdiv (2 ^ min (2:Int).toNat (IntKind.bits .i64))) ((255:Nat):Int)) ((255:Nat):Int)=inR (Df (p.fdiv (2 ^ min (2:Int).toNat (IntKind.bits .i64))) 255) 255 from rfl] at h2
   rw [h1,h2];rfl
 ·rfl
theorem Ry (k:Int) (picks:List Int) (j:Nat):(Cg k picks j).filter (fun x=>Ao x.level k)=[]:=by
 unfold Cg;split
 ·split
  ·rfl
  ·rename_i h;simp [h]
 ·rfl
theorem JB (k:Int) (small:Bool) (picks:List Int):∀ (l:List AO) (j:Nat),(Gp k small picks j l).filter (fun x=>Ao x.level k)=l.filter fun x=>Ao x.level k
 | [],_=>rfl
 | x::r,j=>by
  unfold Gp
  rw [List.filter_cons]
  split
  ·rename_i h
   rw [List.filter_append,List.filter_cons,if_pos h,JB k small picks r (j+1)]
   split
   ·rw [Ry];rfl
   ·rfl
  ·exact JB k small picks r (j+1)
theorem Vo (k:Int) (small:Bool) (picks:List Int):∀ (l:List AO) (j:Nat),(Gp k small picks j l).length≤(if small=true then 2 else 1)*l.length
 | [],_=>by simp [Gp]
 | x::r,j=>by
  have ih:=Vo k small picks r (j+1)
  have he:=VX k picks j
  unfold Gp
  cases small
  ·simp only [Bool.false_eq_true,if_false,List.nil_append,List.length_cons] at ih ⊢
   split
   ·simp only [List.length_cons];omega
   ·omega
  ·simp only [if_true,List.length_cons] at ih ⊢
   split
   ·simp only [List.length_append,List.length_cons];omega
   ·omega
theorem Vn {k:Int} (hk:inR k 3=true) (small:Bool) (picks:List Int):∀ (l:List AO) (j:Nat),l.all AF=true→(Gp k small picks j l).all AF=true
 | [],_,_=>rfl
 | x::r,j,h=>by
  simp only [List.all_cons,Bool.and_eq_true] at h
  have ih:=Vn hk small picks r (j+1) h.2
  unfold Gp
  split
  ·rw [List.all_append,List.all_cons,h.1,ih]
   split
   ·rw [eL hk];rfl
   ·rfl
  ·exact ih
theorem NB (k:Int) (picks:List Int):∀ (l:List AO) (j:Nat),(Im k picks j l).filter (fun x=>Ao x.level k)=l.filter fun x=>Ao x.level k
 | [],_=>rfl
 | x::r,j=>by
  unfold Im
  rw [List.filter_append,List.filter_append,Ry,NB k picks r (j+1),List.filter_cons]
  split
  ·rename_i h;simp [h]
  ·rfl
theorem Vm (k:Int) (picks:List Int):∀ (l:List AO) (j:Nat),(Im k picks j l).length≤2*l.length
 | [],_=>by simp [Im]
 | x::r,j=>by
  have ih:=Vm k picks r (j+1)
  have he:=VX k picks j
  unfold Im
  simp only [List.length_append,List.length_cons]
  split
  ·simp only [List.length_singleton];omega
  ·simp only [List.length_nil];omega
def HW (s:Ap) (k:Int) (picks:List Int):Ap:=⟨s.words,s.ceil,s.starts,Gp k (decide ((s.slots.length:Int)<100)) picks 0 s.slots⟩
theorem RX {s:Ap} (hs:s.slots.length≤256) (k:Int) (picks:List Int):(HW s k picks).slots.length≤256:=by
 have:=Vo k (decide ((s.slots.length:Int)<100)) picks s.slots 0
 simp only [HW]
 by_cases h:(s.slots.length:Int)<100
 ·rw [decide_eq_true h] at this ⊢
  simp only [if_true] at this
  omega
 ·rw [decide_eq_false h] at this ⊢
  simp only [Bool.false_eq_true,if_false,Nat.one_mul] at this
  omega
theorem fT {s:Ap} (hs:Az s=true) {k:Int} (hk:inR k 3=true) (picks:List Int):Az (HW s k picks)=true:=by
 obtain ⟨l1,l2⟩:=Kr hs
 exact QR hs (Pl hs) rfl rfl rfl rfl (RX l1 k picks) (Vn hk _ picks _ _ l2)
theorem Yo {s:Ap} {k:Int} (picks:List Int):RZ k (Bj s k) (HW s k picks):=by
 refine ⟨rfl,fun a ha hua=>?_,?_,?_⟩
 ·show (⟨Cw 0 k s.words.a0,Cw 1 k s.words.a1,Cw 2 k s.words.a2,Cw 3 k s.words.a3⟩:A4 (List Int)).get a=s.words.get a
  rw [MH _ _ _ ha]
  unfold Cw;rw [if_pos hua]
 ·show (s.starts.filter _).filter _=s.starts.filter _
  rw [List.filter_filter];simp
 ·show (s.slots.filter _).filter _=(Gp _ _ _ _ _).filter _
  rw [JB,List.filter_filter];simp
end Ve
