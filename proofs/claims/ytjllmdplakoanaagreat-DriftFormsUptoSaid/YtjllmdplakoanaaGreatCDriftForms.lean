/- The closed runs of DriftForms. -/
import Derived.Test.YtjllmdplakoanaaGreatLDriftForms
import Derived.Test.YtjllmdplakoanaaGreatVeN
import Derived.KernelRfl
set_option linter.all false
set_option linter.unusedSectionVars false
namespace Ve
open Go
theorem hi14 : pureOf (Lv ctx 40) 24 [iV 3] = some (oM (MHg 9 0 0 ⟨2, 0, 3, 0⟩)) := fn_pure 40 (by kernel_rfl)
theorem be14' : pureOf (Lv ctx 40) 23 [] = some (oM MB) := fn_pure 40 (by kernel_rfl)
theorem st14 : pureOf (Lv ctx 40) 25 [iV 0, iV 1] = some (oM MS1) := fn_pure 40 (by kernel_rfl)
end Ve
