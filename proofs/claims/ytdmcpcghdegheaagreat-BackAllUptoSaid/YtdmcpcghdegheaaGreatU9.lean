/- The statement Backs, but for awake. -/
import Derived.Test.YtdmcpcghdegheaaGreatS28
set_option linter.all false
set_option linter.unusedSectionVars false
namespace Ve
open Go Ve.Ab
set_option maxRecDepth 10000
set_option linter.unusedSimpArgs false
set_option linter.unusedVariables false
theorem sm_back {m : TMach} (hm : SmM m) (at_ : Int) : SmM (backM m at_).1 := by
  rcases left_cases m at_ 4 with h | ⟨k, n, s, w, rfl, hs, hM, hS, hst, hp, hn, hi, hl⟩
  · rw [back_none h]; exact sm_zero
  · by_cases hlast : s.at_ + 1 = s.writes.length
    · rw [back_last hl hlast]; exact sm_end (sm_wrote hm hs w) _ _ _
    · rw [back_more hl hlast]; exact sm_wrote hm hs w
theorem u_backs (i : Nat) (m : TMach) (hm : SmM m) (at_ : Int) (haw : pureOf (Lv ctx (i + 23)) 31 [] = some (bV true)) : pureOf (Lv ctx (i + 24)) 9 [eM true m, iV at_] = some (bV true) := by
  have h1 := w_copy (i + 21) true m hm
  have h2 := s_back (i + 1) true m hm at_
  have h3 := r_back (i + 13) true m hm at_
  have h6 := s_sameMachine (i + 20) false true (backM m at_).1 (backM m at_).1 (sm_back hm _)
  have h8 := s_sameMachine (i + 20) true true m m hm
  have h9 := s_spoilM (i + 20) (backM m at_).1 (sm_back hm _)
  simp only [Nat.add_assoc, Nat.reduceAdd] at h1 h2 h3 h6 h8 h9
  refine sp_of rfl 0 (by rfl) ?_
  delta c9
  simp (config := { contextual := true, dsimp := false, implicitDefEqProofs := false, maxSteps := 5000000 }) only [h1, h2, h3, h6, h8, h9, haw, go_sem, Nat.reduceEqDiff, Nat.reduceAdd, Nat.reduceLeDiff, Nat.reduceMul, Nat.reduceLT, Nat.reduceBEq, Int.reduceLT, Int.reduceLE, Int.reduceToNat, Int.reduceAdd, Int.reduceSub, Int.reduceEq, Int.reduceNeg, ↓reduceIte]
end Ve
