/- The statement Grabs, but for awake. -/
import Derived.Test.YtcipiajnabgkgaaGreatS36
import Derived.Test.YtcipiajnabgkgaaGreatS20
set_option linter.all false
set_option linter.unusedSectionVars false
namespace Ve
open Go Ve.Ab
set_option maxHeartbeats 16000000
set_option maxRecDepth 20000
theorem sm_grab {m : TMach} (hm : SmM m) (at_ : Int) : SmM (grabM m at_).1 := by
  rcases left_cases m at_ 1 with h | ⟨k, n, s, w, rfl, hs, hM, hS, hst, hp, hn, hi, hl⟩
  · rw [grab_none h]; exact sm_zero
  · have h := hm.s s (List.mem_of_getElem? hs)
    by_cases hlk : (getW m.words w.level w.index).lock = 0
    · rw [grab_ok hl rfl hlk]; exact sm_setS (sm_setA hm _ _ _) _ ⟨h.bp, h.br, h.bw⟩
    · rw [grab_no hl rfl hlk]; exact sm_again hm _ _
theorem u_Grabs (i : Nat) (m : TMach) (hm : SmM m) (at_ : Int) (haw : pureOf (Lv ctx (i + 23)) 31 [] = some (bV true)) : pureOf (Lv ctx (i + 24)) 8 [eM true m, iV at_] = some (bV true) := by
  have h1 := w_copy (i + 21) true m hm
  have h2 := s_grab (i + 1) true m hm at_
  have h3 := r_grab (i + 13) true m hm at_
  have h6 := s_sameMachine (i + 20) false true (grabM m at_).1 (grabM m at_).1 (sm_grab hm _)
  have h8 := s_sameMachine (i + 20) true true m m hm
  have h9 := s_spoilM (i + 20) (grabM m at_).1 (sm_grab hm _)
  simp only [Nat.add_assoc, Nat.reduceAdd] at h1 h2 h3 h6 h8 h9
  refine sp_of rfl 0 (by rfl) ?_
  delta c8
  simp +contextual -dsimp -implicitDefEqProofs (maxSteps := 5000000) only [h1, h2, h3, h6, h8, h9, haw, go_sem, simprocAttr]
end Ve
