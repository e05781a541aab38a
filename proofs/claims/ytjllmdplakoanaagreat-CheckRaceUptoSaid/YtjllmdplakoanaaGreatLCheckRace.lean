/- The statement CheckRace: two runs, closed behind awake. -/
import Derived.Test.YtjllmdplakoanaaGreatECheckRace
import Derived.Test.YtjllmdplakoanaaGreatAwC
import Derived.Test.YtjllmdplakoanaaGreatFx2
import Derived.Test.YtjllmdplakoanaaGreatS1
set_option linter.all false
set_option linter.unusedSectionVars false
namespace Ve
open Go Ve.Ab
set_option maxHeartbeats 16000000
set_option maxRecDepth 20000
theorem u_CheckRace (b : Bool) : pureOf (Lv ctx 41) 11 [bV b] = some (bV true) := by
  have aw := aw20
  cases b
  all_goals
    refine sp_of rfl 12 (by rfl) ?_
    rw [cut11]
    delta k11_
    simp +contextual -dsimp -implicitDefEqProofs (maxSteps := 5000000) only [aw, go_sem, simprocAttr]
    exact fin_fn (i := 40) (by as_aux_lemma => kernel_rfl)
end Ve
