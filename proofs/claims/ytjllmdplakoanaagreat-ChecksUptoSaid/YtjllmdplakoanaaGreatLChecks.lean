/- The statement Checks, but for awake. -/
import Derived.Test.YtjllmdplakoanaaGreatS41
import Derived.Test.YtjllmdplakoanaaGreatS20
set_option linter.all false
set_option linter.unusedSectionVars false
namespace Ve
open Go Ve.Ab
set_option maxHeartbeats 16000000
set_option maxRecDepth 20000
theorem sm_check {m : TMach} (hm : SmM m) (at_ : Int) : SmM (checkM m at_).1 := by
  rcases curS_cases m at_ 3 with ⟨h, h'⟩ | ⟨k, s, rfl, hs, hM, hS, hst, h, h'⟩ | ⟨k, s, rfl, hs, hM, hS, hst, h, h'⟩
  · rw [check_none h']; exact sm_zero
  · rw [check_none h']; exact sm_zero
  · cases hg : (goodM m.words s.reads s.id).1
    · rw [check_no h' hg]; exact sm_again hm _ _
    · by_cases hw : s.writes = []
      · rw [check_end h' hg hw]; exact sm_end hm _ _ _
      · rw [check_ok h' hg hw]
        have h := hm.s s (List.mem_of_getElem? hs)
        exact sm_setS hm _ ⟨h.bp, h.br, h.bw⟩
theorem u_Checks (i : Nat) (m : TMach) (hm : SmM m) (at_ : Int) (haw : pureOf (Lv ctx (i + 23)) 29 [] = some (bV true)) : pureOf (Lv ctx (i + 24)) 8 [eM true m, iV at_] = some (bV true) := by
  have h1 := w_copy (i + 21) true m hm
  have h2 := s_check (i + 1) true m hm at_
  have h3 := r_check (i + 13) true m hm at_
  have h6 := s_sameMachine (i + 20) false true (checkM m at_).1 (checkM m at_).1 (sm_check hm _)
  have h8 := s_sameMachine (i + 20) true true m m hm
  have h9 := s_spoilM (i + 20) (checkM m at_).1 (sm_check hm _)
  simp only [Nat.add_assoc, Nat.reduceAdd] at h1 h2 h3 h6 h8 h9
  refine sp_of rfl 0 (by rfl) ?_
  delta c8
  simp +contextual -dsimp -implicitDefEqProofs (maxSteps := 5000000) only [h1, h2, h3, h6, h8, h9, haw, go_sem, simprocAttr]
end Ve
