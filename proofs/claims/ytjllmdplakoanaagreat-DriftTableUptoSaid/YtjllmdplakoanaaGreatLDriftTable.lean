/- The statement DriftTable. -/
import Derived.Test.YtjllmdplakoanaaGreatDT0
import Derived.Test.YtjllmdplakoanaaGreatDT1
import Derived.Test.YtjllmdplakoanaaGreatDT2
import Derived.Test.YtjllmdplakoanaaGreatDT3
set_option linter.all false
set_option linter.unusedSectionVars false
namespace Ve
open Go Ve.Ab
set_option maxHeartbeats 16000000
theorem u_DriftTable (w : Int) : pureOf (Lv ctx 41) 5 [iV w] = some (bV true) := by
  have sh : ∀ j : Int, ¬ j < 0 → ∃ B : Int, ∀ t, opBin lay .shr t (iV w) (.lit (.int .u64 j)) = some (iV B) := fun j hj => ⟨_, fun t => bin_shr hj⟩
  obtain ⟨W2, s2⟩ := sh 2 (by decide)
  obtain ⟨W4, s4⟩ := sh 4 (by decide)
  have hS := inR_le.1 (mask_in w 3 (by omega))
  obtain hS | hS | hS | hS : andI w 3 = 0 ∨ andI w 3 = 1 ∨ andI w 3 = 2 ∨ andI w 3 = 3 := by simp at hS; omega
  · exact u_dt0 w _ _ s2 s4 hS
  · exact u_dt1 w _ _ s2 s4 hS
  · exact u_dt2 w _ _ s2 s4 hS
  · exact u_dt3 w _ _ s2 s4 hS
end Ve
