/- The closed run of StampForms. -/
import Derived.Test.YtcipiajnabgkgaaGreatLStampForms
import Derived.Test.YtcipiajnabgkgaaGreatVeN
import Derived.KernelRfl
set_option linter.all false
set_option linter.unusedSectionVars false
namespace Ve
open Go
theorem st_StampForms : pureOf (Lv ctx 40) 25 [iV 0, iV 5] = some (oM M_StampForms) := fn_pure 40 (by kernel_rfl)
end Ve
