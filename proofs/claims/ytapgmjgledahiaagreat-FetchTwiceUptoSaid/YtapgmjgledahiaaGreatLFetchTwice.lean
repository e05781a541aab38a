/- The statement FetchTwice: two runs, closed behind its loop's head. -/
import Derived.Test.YtapgmjgledahiaaGreatEFetchTwice
import Derived.Test.YtapgmjgledahiaaGreatAwD
import Derived.Test.YtapgmjgledahiaaGreatFx2
import Derived.Test.YtapgmjgledahiaaGreatS1
import Derived.Test.YtapgmjgledahiaaGreatAr
set_option linter.all false
set_option linter.unusedSectionVars false
namespace Ve
open Go Ve.Ab
set_option maxHeartbeats 16000000
set_option maxRecDepth 20000
theorem u_FetchTwice (x : Int) : pureOf (Lv ctx 41) 14 [iV x] = some (bV true) := by
  have aw := aw15
  have hbe := be15
  have hk := inR_le.1 (mask_in x 1 (by omega))
  simp only [cast1] at hk
  simp only [MB, oM, cO, oWs, oSs, oEs, oIs, oRs, oWrs, List.map_cons, List.map_nil, oS, eI, eR, eWr, eW, eE] at hbe
  obtain h | h : andI x 1 = 0 ∨ andI x 1 = 1 := by omega
  all_goals
    refine sp_of rfl 12 (by rfl) ?_
    rw [cut14]
    delta k14_
    simp +contextual -dsimp -implicitDefEqProofs (maxSteps := 5000000) only [aw, hbe, h, List.replicate, go_sem, simprocAttr]
    exact fin_fn (i := 40) (by as_aux_lemma => kernel_rfl)
end Ve
