/- The statement Undos, but for awake. -/
import Derived.Test.YtdmcpcghdegheaaGreatVsE
set_option linter.all false
set_option linter.unusedSectionVars false
namespace Ve
open Go Ve.Ab
set_option maxRecDepth 10000
set_option linter.unusedSimpArgs false
set_option linter.unusedVariables false
theorem u_undos (i : Nat) (m : TMach) (hm : SmM m) (at_ kind result told : Int) (haw : pureOf (Lv ctx (i + 22)) 22 [] = some (bV true)) : pureOf (Lv ctx (i + 23)) 3 [eM true m, iV at_, iV kind, iV result, iV told] = some (bV true) := by
  have h1 := w_copy (i + 20) true m hm
  have h2 := s_again (i + 1) true m hm at_ kind
  have h3 := r_again (i + 13) true m hm at_ kind
  have h4 := s_end (i + 1) true m hm at_ result told
  have h5 := r_end (i + 13) true m hm at_ result told
  have h6 := s_sameMachine (i + 19) false true (againM m at_ kind).1 (againM m at_ kind).1 (sm_again hm _ _)
  have h7 := s_sameMachine (i + 19) false true (endM m at_ result told).1 (endM m at_ result told).1 (sm_end hm _ _ _)
  have h8 := s_sameMachine (i + 19) true true m m hm
  have h9 := s_spoilM (i + 19) (againM m at_ kind).1 (sm_again hm _ _)
  have h10 := s_spoilM (i + 19) (endM m at_ result told).1 (sm_end hm _ _ _)
  simp only [Nat.add_assoc, Nat.reduceAdd] at h1 h2 h3 h4 h5 h6 h7 h8 h9 h10
  refine sp_of rfl 0 (by rfl) ?_
  delta c3
  simp (config := { contextual := true, dsimp := false, implicitDefEqProofs := false, maxSteps := 5000000 }) only [h1, h2, h3, h4, h5, h6, h7, h8, h9, h10, haw, go_sem, Nat.reduceEqDiff, Nat.reduceAdd, Nat.reduceLeDiff, Nat.reduceMul, Nat.reduceLT, Nat.reduceBEq, Int.reduceLT, Int.reduceLE, Int.reduceToNat, Int.reduceAdd, Int.reduceSub, Int.reduceEq, Int.reduceNeg, ↓reduceIte]
end Ve
