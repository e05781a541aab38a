/- The statement GrabRow. -/
import Derived.Test.YtcipiajnabgkgaaGreatGR0
import Derived.Test.YtcipiajnabgkgaaGreatGR1
import Derived.Test.YtcipiajnabgkgaaGreatGR2
import Derived.Test.YtcipiajnabgkgaaGreatGR3
set_option linter.all false
set_option linter.unusedSectionVars false
namespace Ve
open Go Ve.Ab
set_option maxHeartbeats 16000000
theorem u_GrabRow (bits x : Int) : pureOf (Lv ctx 41) 10 [iV bits, iV x] = some (bV true) := by
  have sh : ∀ j : Int, ¬ j < 0 → ∃ B : Int, ∀ t, opBin lay .shr t (iV bits) (iV j) = some (iV B) := fun j hj => ⟨_, fun t => bin_shr hj⟩
  obtain ⟨B0, s0⟩ := sh 0 (by decide)
  obtain ⟨B1, s1⟩ := sh 1 (by decide)
  obtain ⟨B2, s2⟩ := sh 2 (by decide)
  obtain ⟨B3, s3⟩ := sh 3 (by decide)
  cases b0 : decide (andI B0 1 = 1) <;> cases b1 : decide (andI B1 1 = 1)
  · exact u_gr0 bits x _ _ _ _ s0 s1 s2 s3 b0 b1
  · exact u_gr2 bits x _ _ _ _ s0 s1 s2 s3 b0 b1
  · exact u_gr1 bits x _ _ _ _ s0 s1 s2 s3 b0 b1
  · exact u_gr3 bits x _ _ _ _ s0 s1 s2 s3 b0 b1
end Ve
