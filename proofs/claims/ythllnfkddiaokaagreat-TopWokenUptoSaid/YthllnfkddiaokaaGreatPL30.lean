/- TopWoken, on the models: who is parked, and a slot. SlotFair: who is picked. -/
import Derived.Test.YthllnfkddiaokaaGreatPL29
set_option linter.all false
set_option linter.unusedSectionVars false
namespace Ve
open Go
theorem nM {ceil clk:Int} {ws:A4 (List Aj)} {s:Ae} (h5:s.step=5):EC ceil ws clk s=some (Fo ws s):=by
 unfold EC
 rw [if_neg (by omega),if_neg (by omega),if_neg (by omega),if_neg (by omega),if_neg (by omega),if_pos h5]
theorem WH {m:Ac} (hI:Do m) {x:AO} (hx:AF x=true) {k:Nat} {s:Ae} (hs:m.sess[k]?=some s) (h5:s.step=5) :
  ∃ t,(AQ m x).1.sess[k]?=some t∧(t.step=0↔(CU m x=((k:Int),true,0)∧s.reads.any (Dp m.words)=true))∧(t.step≠0→t=s):=by
 rcases Hf hI.inv.may hx with h | ⟨j,u,h,hu,hl,hst⟩
 ·refine ⟨s,by rw [GG h];exact hs,⟨fun h0=>by omega,fun h1=>by rw [h] at h1;exact absurd h1.1 (by simp)⟩,fun _=>rfl⟩
 ·obtain ⟨E,hE,h2,h3,hm,ho,t,hL⟩:=FI hu hI
  have e1:(AQ m x).1=E.app m j u.label:=by unfold AQ;rw [h];simp only [if_true,h2]
  by_cases hjk:j=k
  ·subst hjk
   rw [hu] at hs;cases hs
   rw [nM h5] at hE;cases hE
   refine ⟨(Fo m.words s).t,by rw [e1,Cn];exact List.getElem?_set_self (Ax hu),?_,?_⟩
   ·unfold Fo
    cases hc:s.reads.any (Dp m.words) with
    | true=>rw [if_pos rfl];exact ⟨fun _=>⟨h,rfl⟩,fun _=>rfl⟩
    | false=>rw [if_neg (by simp)];exact ⟨fun h0=>by simp only at h0;omega,fun h0=>absurd h0.2 (by simp)⟩
   ·unfold Fo
    split
    ·intro h0;exact absurd rfl h0
    ·intro _;rfl
  ·refine ⟨s,by rw [e1,Cn,List.getElem?_set_ne hjk];exact hs,⟨fun h0=>by omega,fun h1=>?_⟩,fun _=>rfl⟩
   rw [h] at h1
   have:=h1.1
   simp only [Prod.mk.injEq] at this
   omega
end Ve
