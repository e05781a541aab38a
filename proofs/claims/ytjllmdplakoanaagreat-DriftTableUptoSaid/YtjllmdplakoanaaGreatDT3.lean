/- The statement DriftTable, a part. -/
import Derived.Test.YtjllmdplakoanaaGreatDT
set_option linter.all false
set_option linter.unusedSectionVars false
namespace Ve
open Go Ve.Ab
set_option maxHeartbeats 16000000
set_option maxRecDepth 20000
theorem u_dt3 (w W2 W4 : Int) (s2 : ∀ t, opBin lay .shr t (iV w) (.lit (.int .u64 2)) = some (iV W2)) (s4 : ∀ t, opBin lay .shr t (iV w) (.lit (.int .u64 4)) = some (iV W4)) (h0 : andI w 3 = 3) : pureOf (Lv ctx 41) 5 [iV w] = some (bV true) := by
  have g2 := inR_le.1 (mask_in W2 3 (by omega))
  have g4 := inR_le.1 (mask_in W4 3 (by omega))
  have aw := aw14
  have hbe := be14
  have oo := orT
  simp only [MB, oM, cO, oWs, oSs, oEs, oIs, oRs, oWrs, List.map_cons, List.map_nil, oS, eI, eR, eWr, eW, eE] at hbe
  obtain h4 | h4 | h4 | h4 : andI W4 3 = 0 ∨ andI W4 3 = 1 ∨ andI W4 3 = 2 ∨ andI W4 3 = 3 := by simp at g4; omega
  all_goals
    obtain h2 | h2 | h2 | h2 : andI W2 3 = 0 ∨ andI W2 3 = 1 ∨ andI W2 3 = 2 ∨ andI W2 3 = 3 := by simp at g2; omega
    all_goals
      refine sp_of rfl 6 (by rfl) ?_
      rw [cut5]
      delta k5_
      simp +contextual -dsimp -implicitDefEqProofs (maxSteps := 5000000) only [aw, hbe, s2, s4, h0, h2, h4, oo, List.replicate, go_sem, simprocAttr]
      try exact fin_fn (i := 40) (by as_aux_lemma => kernel_rfl)
end Ve
