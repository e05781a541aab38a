/- The closed run of GrabForms. -/
import Derived.Test.YtcipiajnabgkgaaGreatLGrabForms
import Derived.Test.YtcipiajnabgkgaaGreatVeN
import Derived.KernelRfl
set_option linter.all false
set_option linter.unusedSectionVars false
namespace Ve
open Go
theorem st_GrabForms : pureOf (Lv ctx 40) 32 [iV 0, iV 4] = some (oM M_GrabForms) := fn_pure 40 (by kernel_rfl)
end Ve
