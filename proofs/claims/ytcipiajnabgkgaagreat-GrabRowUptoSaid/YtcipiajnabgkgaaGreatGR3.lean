/- The statement GrabRow, a part. -/
import Derived.Test.YtcipiajnabgkgaaGreatGR
set_option linter.all false
set_option linter.unusedSectionVars false
namespace Ve
open Go Ve.Ab
set_option maxHeartbeats 16000000
set_option maxRecDepth 20000
theorem u_gr3 (bits x B0 B1 B2 B3 : Int) (s0 : ∀ t, opBin lay .shr t (iV bits) (iV 0) = some (iV B0)) (s1 : ∀ t, opBin lay .shr t (iV bits) (iV 1) = some (iV B1)) (s2 : ∀ t, opBin lay .shr t (iV bits) (iV 2) = some (iV B2)) (s3 : ∀ t, opBin lay .shr t (iV bits) (iV 3) = some (iV B3))
    (b0 : decide (andI B0 1 = 1) = true) (b1 : decide (andI B1 1 = 1) = true) : pureOf (Lv ctx 41) 10 [iV bits, iV x] = some (bV true) := by
  have hS := inR_le.1 (mask_in x 3 (by omega))
  have aw := aw18
  have hbe := be18
  simp only [MB, oM, cO, oWs, oSs, oEs, oIs, oRs, oWrs, List.map_cons, List.map_nil, oS, eI, eR, eWr, eW, eE] at hbe
  cases b2 : decide (andI B2 1 = 1) <;> cases b3 : decide (andI B3 1 = 1)
  all_goals
    obtain hS | hS | hS | hS : andI x 3 = 0 ∨ andI x 3 = 1 ∨ andI x 3 = 2 ∨ andI x 3 = 3 := by simp at hS; omega
    all_goals
      refine sp_of rfl 6 (by rfl) ?_
      rw [cut10]
      delta k10_
      simp +contextual -dsimp -implicitDefEqProofs (maxSteps := 5000000) only [aw, hbe, s0, s1, s2, s3, b0, b1, b2, b3, hS, List.replicate, gLs, ↓un_c (c10_1.eq_1), go_sem, simprocAttr]
      try exact fin_fn (i := 40) (by as_aux_lemma => kernel_rfl)
end Ve
