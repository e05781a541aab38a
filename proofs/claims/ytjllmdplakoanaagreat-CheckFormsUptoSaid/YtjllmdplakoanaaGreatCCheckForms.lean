/- The closed run of CheckForms. -/
import Derived.Test.YtjllmdplakoanaaGreatLCheckForms
import Derived.Test.YtjllmdplakoanaaGreatVeN
import Derived.KernelRfl
set_option linter.all false
set_option linter.unusedSectionVars false
namespace Ve
open Go
theorem st_CheckForms : pureOf (Lv ctx 40) 30 [iV 0, iV 6] = some (oM M_CheckForms) := fn_pure 40 (by kernel_rfl)
end Ve
