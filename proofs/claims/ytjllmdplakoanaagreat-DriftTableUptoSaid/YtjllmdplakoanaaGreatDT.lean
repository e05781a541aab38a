/- The statement DriftTable: how it begins. -/
import Derived.Test.YtjllmdplakoanaaGreatEDriftTable
import Derived.Test.YtjllmdplakoanaaGreatAwC
import Derived.Test.YtjllmdplakoanaaGreatFx2
import Derived.Test.YtjllmdplakoanaaGreatVeN
import Derived.Test.YtjllmdplakoanaaGreatAr
import Derived.Test.YtjllmdplakoanaaGreatPLb
import Derived.Test.YtjllmdplakoanaaGreatS1
set_option linter.all false
set_option linter.unusedSectionVars false
namespace Ve
open Go Ve.Ab
set_option maxHeartbeats 16000000
set_option maxRecDepth 20000
theorem be14 : pureOf (Lv ctx 40) 23 [] = some (oM MB) := fn_pure 40 (by kernel_rfl)
theorem orT : orI 0 0 = 0 ∧ orI 0 1 = 1 ∧ orI 0 2 = 2 ∧ orI 0 3 = 3 ∧ orI 1 0 = 1 ∧ orI 1 1 = 1 ∧ orI 1 2 = 3 ∧ orI 1 3 = 3 ∧ orI 2 0 = 2 ∧ orI 2 1 = 3 ∧ orI 2 2 = 2 ∧ orI 2 3 = 3 ∧ orI 3 0 = 3 ∧ orI 3 1 = 3 ∧ orI 3 2 = 3 ∧ orI 3 3 = 3 := by decide
end Ve
