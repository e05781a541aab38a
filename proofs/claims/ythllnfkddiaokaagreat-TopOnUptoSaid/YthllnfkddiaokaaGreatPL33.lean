/- One session alone, II: the other steps; the run. TopOn on the models. -/
import Derived.Test.YthllnfkddiaokaaGreatPL32
set_option linter.all false
set_option linter.unusedSectionVars false
namespace Ve
open Go
section
variable {m:Ac} {k:Nat} {s:Ae} (hs:m.sess[k]?=some s) (hI:Do m) (hA:KX m s)
include hs hI hA
theorem dN (h1:s.step=1) {E:Ef} (hE:Gt m.words s=some E):Uq (E.w.app m.words) s E.t:=by
 have hS:=BU hs hI.inv
 have hat:=AE.1 hS.at_
 have hrk:rank s=2*s.writes.length - s.at_+2:=by unfold rank;rw [if_neg (by omega),if_pos h1]
 unfold Gt at hE
 cases hw:s.writes[s.at_.toNat]? with
 | none=>rw [hw] at hE;cases hE
 | some w =>
  rw [hw] at hE;simp only [Option.some.injEq] at hE;subst hE
  have hlt:=Ax hw
  have hmem:=List.mem_of_getElem? hw
  have hth:=CD hs hI hmem
  have hfree:=hA.gr h1 s.at_.toNat w (by omega) hw
  rw [if_pos hfree]
  refine ⟨rfl,hA.tries,fun _ _ r hr=>?_,fun _ j y hj hy=>?_,fun h=>?_,hA.wl,.inl ?_⟩
  ·have hrt:Ay m.words r.level r.index=true:=(List.all_eq_true.1 hS.rthere) r hr
   have e:=hA.rd (by omega) (by omega) r hr
   show (AB (CK m.words w.level w.index _) r.level r.index).ver=r.ver
   rw [Hx hth hrt]
   split
   ·rename_i hc;rw [hc.1,hc.2] at e;exact e
   ·exact e
  ·have hj:s.at_+1≤(j:Int):=hj
   have hy:s.writes[j]?=some y:=hy
   have hyt:=CD hs hI (List.mem_of_getElem? hy)
   show (AB (CK m.words w.level w.index _) y.level y.index).lock=0
   rw [Hx hth hyt]
   rw [if_neg]
   ·exact hA.gr h1 j y (by omega) hy
   ·rintro ⟨c1,c2⟩
    have hp:=(BX hS.writes).2.1
    rw [List.pairwise_iff_getElem] at hp
    have hjl:=Ax hy
    have:=hp s.at_.toNat j hlt hjl (by omega)
    have e1:s.writes[s.at_.toNat]=w:=by rw [List.getElem?_eq_getElem hlt] at hw;exact Option.some.inj hw
    have e2:s.writes[j]=y:=by rw [List.getElem?_eq_getElem hjl] at hy;exact Option.some.inj hy
    rw [e1,e2] at this
    simp only [plW,c1,c2] at this;omega
  ·simp only at h;split at h<;>omega
  ·rw [hrk]
   by_cases hl:s.at_+1=(s.writes.length:Int)
   ·simp only [rank,hl,if_true];simp;omega
   ·have e:rank { s with at_:=s.at_+1,step:=if s.at_+1=(s.writes.length:Int) then 2 else s.step }=2*s.writes.length - (s.at_+1)+2:=by
     unfold rank;simp only [if_neg hl,h1];simp
    show rank { s with at_:=s.at_+1,step:=if s.at_+1=(s.writes.length:Int) then 2 else s.step }<_
    rw [e];omega
theorem Xv (h2:s.step=2):Uq ((EM m.ceil (m.clocks.get s.label) s).w.app m.words) s (EM m.ceil (m.clocks.get s.label) s).t:=by
 have hrk:rank s=s.writes.length+2:=by unfold rank;rw [if_neg (by omega),if_neg (by omega),if_pos h2]
 unfold EM
 split
 ·exact Pt hs hI hA _ _ _ (by omega)
 ·refine ⟨rfl,hA.tries,fun _ _=>hA.rd (by omega) (by omega),fun h=>by simp at h,fun h=>by simp at h,hA.wl,.inl ?_⟩
  rw [hrk];simp [rank]
theorem Xw (h3:s.step=3):Uq ((Dh m.words s).w.app m.words) s (Dh m.words s).t:=by
 have hrk:rank s=s.writes.length+1:=by unfold rank;rw [if_neg (by omega),if_neg (by omega),if_neg (by omega),if_pos h3]
 unfold Dh
 rw [if_pos (OS hs hI hA (by omega) (by omega))]
 split
 ·exact Pt hs hI hA _ _ _ (by omega)
 ·refine ⟨rfl,hA.tries,fun h _=>absurd rfl h,fun h=>by simp at h,fun h=>by simp at h,hA.wl,.inl ?_⟩
  rw [hrk];simp [rank];omega
theorem dO (h4:s.step=4) {E:Ef} (hE:Gu s=some E):Uq (E.w.app m.words) s E.t:=by
 have hS:=BU hs hI.inv
 have hat:=AE.1 hS.at_
 have hrk:rank s=s.writes.length - s.at_:=by unfold rank;rw [if_neg (by omega),if_neg (by omega),if_neg (by omega),if_neg (by omega),if_pos h4]
 unfold Gu at hE
 cases hw:s.writes[s.at_.toNat]? with
 | none=>rw [hw] at hE;cases hE
 | some w =>
  rw [hw] at hE;simp only [Option.some.injEq] at hE;subst hE
  have hlt:=Ax hw
  split
  ·refine ⟨rfl,hA.tries,fun _ h6=>absurd rfl h6,fun h=>by simp [DB] at h,fun h=>by simp [DB] at h,by simp [DB,ED],.inl ?_⟩
   rw [hrk];simp [rank,DB];omega
  ·refine ⟨rfl,hA.tries,fun h _=>absurd h4 h,fun h=>?_,fun h=>?_,hA.wl,.inl ?_⟩
   ·simp only at h;omega
   ·simp only at h;omega
   ·have e:rank { s with at_:=s.at_+1 }=s.writes.length - (s.at_+1):=by
     unfold rank;rw [if_neg (by simp only;omega),if_neg (by simp only;omega),if_neg (by simp only;omega),if_neg (by simp only;omega),if_pos h4]
    show rank { s with at_:=s.at_+1 }<_
    rw [e,hrk];omega
theorem dM {E:Ef} (hE:EC m.ceil m.words (m.clocks.get s.label) s=some E):Uq (E.w.app m.words) s E.t:=by
 unfold EC at hE
 by_cases h0:s.step=0
 ·rw [if_pos h0] at hE;cases hE;exact mC hs hI hA h0
 rw [if_neg h0] at hE
 by_cases h1:s.step=1
 ·rw [if_pos h1] at hE;exact dN hs hI hA h1 hE
 rw [if_neg h1] at hE
 by_cases h2:s.step=2
 ·rw [if_pos h2] at hE;cases hE;exact Xv hs hI hA h2
 rw [if_neg h2] at hE
 by_cases h3:s.step=3
 ·rw [if_pos h3] at hE;cases hE;exact Xw hs hI hA h3
 rw [if_neg h3] at hE
 by_cases h4:s.step=4
 ·rw [if_pos h4] at hE;exact dO hs hI hA h4 hE
 rw [if_neg h4] at hE
 have hr0:rank s=0:=by unfold rank;rw [if_neg h0,if_neg h1,if_neg h2,if_neg h3,if_neg h4]
 by_cases h5:s.step=5
 ·rw [if_pos h5] at hE;cases hE
  unfold Fo
  rw [Xe hs hI hA h4 (by omega),if_neg (by simp)]
  exact ⟨rfl,hA.tries,hA.rd,hA.gr,hA.wr,hA.wl,.inr ⟨hr0,hr0⟩⟩
 ·rw [if_neg h5] at hE;cases hE
  exact ⟨rfl,hA.tries,hA.rd,hA.gr,hA.wr,hA.wl,.inr ⟨hr0,hr0⟩⟩
theorem Lw:∃ t A,BV m k=(A,0)∧A.sess=m.sess.set k t∧Do A∧KX A t∧t.prog=s.prog∧(rank t<rank s∨(rank t=0∧rank s=0)):=by
 obtain ⟨E,hE,h2,h3,hm,ho,_,_⟩:=FI hs hI
 have hL:=dM hs hI hA hE
 have hp:=(HV m.sess none hI.inv.may.ids).2
 refine ⟨E.t,E.app m k s.label,h2,Cn _ _ _ _,h3,⟨fun x hx hne=>?_,hL.tries,?_,?_,hL.wr,hL.wl⟩,hL.prog,hL.rank⟩
 ·rw [Cn] at hx
  rcases LR hp hs hx with h | ⟨h,h'⟩
  ·exact absurd h hne
  ·exact hA.others x h h'
 ·rw [BM];exact hL.rd
 ·rw [BM];exact hL.gr
end
theorem sF {ws:A4 (List Aj)} {s:Ae} (hS:SP ws s) (hSI:SI s):0≤rank s∧(rank s=0→s.step=5∨s.step=6):=by
 have hp:=AE.1 hS.pc
 have ha:=AE.1 hS.at_
 have hst:=AE.1 hS.step
 have:=Kp s
 unfold rank
 by_cases h0:s.step=0
 ·rw [if_pos h0];omega
 rw [if_neg h0]
 by_cases h1:s.step=1
 ·rw [if_pos h1];omega
 rw [if_neg h1]
 by_cases h2:s.step=2
 ·rw [if_pos h2];omega
 rw [if_neg h2]
 by_cases h3:s.step=3
 ·rw [if_pos h3];omega
 rw [if_neg h3]
 by_cases h4:s.step=4
 ·have:=hSI.at_ (.inr h4)
  rw [if_pos h4];omega
 rw [if_neg h4];omega
def Cr (k:Nat):Nat→Ac→Ac
 | 0,m=>m
 | n+1,m=>Cr k n (BV m k).1
theorem RW {k:Nat}:∀ (n:Nat) (m:Ac) (s:Ae),m.sess[k]?=some s→Do m→KX m s→rank s≤n →
  ∃ t,(Cr k n m).sess[k]?=some t∧Do (Cr k n m)∧KX (Cr k n m) t∧(t.step=5∨t.step=6)
 | 0,m,s,hs,hI,hA,hr=>by
  have h:=sF (BU hs hI.inv) (hI.inv.sess s (List.mem_of_getElem? hs))
  exact ⟨s,hs,hI,hA,h.2 (by omega)⟩
 | n+1,m,s,hs,hI,hA,hr=>by
  obtain ⟨t,A,h1,h2,h3,h4,_,h5⟩:=Lw hs hI hA
  have e:Cr k (n+1) m=Cr k n A:=by show Cr k n (BV m k).1=_;rw [h1]
  rw [e]
  exact RW n A t (by rw [h2];exact List.getElem?_set_self (Ax hs)) h3 h4 (by omega)
theorem fS {s:Ap} (h:De (AC s)=true) {k:Nat} {x:Ae} (hx:(AC s).sess[k]?=some x):KX (AC s) x∧rank x≤4*x.prog.length+4:=by
 have hx':=List.mem_of_getElem? hx
 have hall:∀ y∈(AC s).sess,∃ z,y=AX z:=by
  intro y hy
  simp only [AC,List.mem_map] at hy
  obtain ⟨z,_,rfl⟩:=hy;exact ⟨z,rfl⟩
 obtain ⟨z,rfl⟩:=hall x hx'
 refine ⟨⟨fun y hy _=>?_,rfl,fun _ _ r hr=>?_,fun h=>?_,fun _=>?_,?_⟩,?_⟩
 ·obtain ⟨z,rfl⟩:=hall y hy;rfl
 ·simp [AX] at hr
 ·simp [AX] at h
 ·simp [AX]
 ·simp [AX]
 ·have:=Kp (AX z)
  have e:rank (AX z)=2*((AX z).prog.length - 0) - MW (AX z)+2*(AX z).prog.length+3:=by
   have h0:(AX z).step=0:=rfl
   unfold rank;rw [if_pos h0];rfl
  rw [e];omega
end Ve
