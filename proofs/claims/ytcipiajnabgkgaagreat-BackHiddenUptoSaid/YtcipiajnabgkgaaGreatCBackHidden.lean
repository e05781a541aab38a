/- The closed runs of BackHidden. -/
import Derived.Test.YtcipiajnabgkgaaGreatU15
import Derived.Test.YtcipiajnabgkgaaGreatVeN
import Derived.KernelRfl
set_option linter.all false
set_option linter.unusedSectionVars false
namespace Ve
open Go
theorem be21 : pureOf (Lv ctx 40) 14 [] = some (oM MH0) := fn_pure 40 (by kernel_rfl)
theorem st210 : pureOf (Lv ctx 40) 18 [iV 0, iV 0] = some (oM MH0) := fn_pure 40 (by kernel_rfl)
end Ve
