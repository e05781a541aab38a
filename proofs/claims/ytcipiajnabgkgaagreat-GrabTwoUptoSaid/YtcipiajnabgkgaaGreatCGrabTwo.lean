/- The closed runs of GrabTwo. -/
import Derived.Test.YtcipiajnabgkgaaGreatLGrabTwo
import Derived.Test.YtcipiajnabgkgaaGreatVeN
import Derived.KernelRfl
set_option linter.all false
set_option linter.unusedSectionVars false
namespace Ve
open Go
theorem be18' : pureOf (Lv ctx 40) 33 [] = some (oM MB) := fn_pure 40 (by kernel_rfl)
theorem st180 : pureOf (Lv ctx 40) 32 [iV 0, iV 0] = some (oM MB) := fn_pure 40 (by kernel_rfl)
end Ve
