/- The statement UndoTurns, on. -/
import Derived.Test.YtdmcpcghdegheaaGreatU4
set_option linter.all false
set_option linter.unusedSectionVars false
namespace Ve
open Go Ve.Ab
set_option maxRecDepth 10000
set_option linter.unusedSimpArgs false
set_option linter.unusedVariables false
theorem u_undoTurns (i : Nat) (m : TMach) (hm : SmM m) (at_ : Int) (wake : Bool) (haw : pureOf (Lv ctx (i + 22)) 22 [] = some (bV true)) : pureOf (Lv ctx (i + 23)) 4 [eM true m, iV at_, bV wake] = some (bV true) := by
  have key : ∀ kind : Int, (kind = 3 ∨ kind = 5) → (hereM m at_ = false) ∨ (∃ k X P, at_ = (k : Nat) ∧ againM m k kind = (X, 0) ∧ endM m k 1 0 = (P, 0) ∧ pureOf (Lv ctx (i + 22)) 23 [eM true m, eM true X, iV k] = some (bV true) ∧ pureOf (Lv ctx (i + 22)) 23 [eM true m, eM true P, iV k] = some (bV true)) := by
    intro kind hkd
    rcases here_cases m at_ with hn | ⟨k, s, rfl, hs, hM, hS⟩
    · exact .inl hn
    · refine .inr ⟨k, anew m k s kind, ended m k s 1 0, rfl, again_at hs hM hkd, end_at hs hM (by decide) (by decide), ?_, ?_⟩
      · have sx : SmM (anew m k s kind) := by have := sm_again hm k kind; rwa [again_at hs hM hkd] at this
        exact u_turns (i + 19) m _ hm sx k s (againS s) hs hS.id (anew_clocks _) (anew_ceil _) (anew_sess _) (anew_words _) rfl rfl rfl
      · have sx : SmM (ended m k s 1 0) := by have := sm_end hm k 1 0; rwa [end_at hs hM (by decide) (by decide)] at this
        exact u_turns (i + 19) m _ hm sx k s (endS s 1 0) hs hS.id (ended_clocks _ _) (ended_ceil _ _) (ended_sess _ _) (ended_words _ _) rfl rfl rfl
  have h2 := s_again (i + 1) true m hm at_
  have h3 := s_end (i + 1) true m hm at_ 1 0
  have hz := w_zero (i + 19) true false
  cases wake
  · have h2 := h2 3
    rcases key 3 (.inl rfl) with hn | ⟨k, X, P, rfl, e1, e2, h4, h5⟩
    · rw [again_no hn, zero_o] at h2
      rw [end_no hn, zero_o] at h3
      simp only [Nat.add_assoc, Nat.reduceAdd] at h2 h3 hz
      refine sp_of rfl 0 (by rfl) ?_
      delta c4
      simp (config := { contextual := true, dsimp := false, implicitDefEqProofs := false, maxSteps := 5000000 }) only [h2, h3, haw, hz, go_sem, Nat.reduceEqDiff, Nat.reduceAdd, Nat.reduceLeDiff, Nat.reduceMul, Nat.reduceLT, Nat.reduceBEq, Int.reduceLT, Int.reduceLE, Int.reduceToNat, Int.reduceAdd, Int.reduceSub, Int.reduceEq, Int.reduceNeg, ↓reduceIte]
    · rw [e1] at h2
      rw [e2] at h3
      simp only [Nat.add_assoc, Nat.reduceAdd] at h2 h3 h4 h5
      refine sp_of rfl 0 (by rfl) ?_
      delta c4
      simp (config := { contextual := true, dsimp := false, implicitDefEqProofs := false, maxSteps := 5000000 }) only [h2, h3, h4, h5, haw, go_sem, Nat.reduceEqDiff, Nat.reduceAdd, Nat.reduceLeDiff, Nat.reduceMul, Nat.reduceLT, Nat.reduceBEq, Int.reduceLT, Int.reduceLE, Int.reduceToNat, Int.reduceAdd, Int.reduceSub, Int.reduceEq, Int.reduceNeg, ↓reduceIte]
  · have h2 := h2 5
    rcases key 5 (.inr rfl) with hn | ⟨k, X, P, rfl, e1, e2, h4, h5⟩
    · rw [again_no hn, zero_o] at h2
      rw [end_no hn, zero_o] at h3
      simp only [Nat.add_assoc, Nat.reduceAdd] at h2 h3 hz
      refine sp_of rfl 0 (by rfl) ?_
      delta c4
      simp (config := { contextual := true, dsimp := false, implicitDefEqProofs := false, maxSteps := 5000000 }) only [h2, h3, haw, hz, go_sem, Nat.reduceEqDiff, Nat.reduceAdd, Nat.reduceLeDiff, Nat.reduceMul, Nat.reduceLT, Nat.reduceBEq, Int.reduceLT, Int.reduceLE, Int.reduceToNat, Int.reduceAdd, Int.reduceSub, Int.reduceEq, Int.reduceNeg, ↓reduceIte]
    · rw [e1] at h2
      rw [e2] at h3
      simp only [Nat.add_assoc, Nat.reduceAdd] at h2 h3 h4 h5
      refine sp_of rfl 0 (by rfl) ?_
      delta c4
      simp (config := { contextual := true, dsimp := false, implicitDefEqProofs := false, maxSteps := 5000000 }) only [h2, h3, h4, h5, haw, go_sem, Nat.reduceEqDiff, Nat.reduceAdd, Nat.reduceLeDiff, Nat.reduceMul, Nat.reduceLT, Nat.reduceBEq, Int.reduceLT, Int.reduceLE, Int.reduceToNat, Int.reduceAdd, Int.reduceSub, Int.reduceEq, Int.reduceNeg, ↓reduceIte]
end Ve
