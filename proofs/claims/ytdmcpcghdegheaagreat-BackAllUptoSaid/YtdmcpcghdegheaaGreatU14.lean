/- The closed run of BackAll. -/
import Derived.Test.YtdmcpcghdegheaaGreatU13
import Derived.Test.YtdmcpcghdegheaaGreatVeN
import Derived.KernelRfl
set_option linter.all false
set_option linter.unusedSectionVars false
namespace Ve
open Go Ve.Ab
theorem be21 : pureOf (Lv ctx 40) 33 [] = some (oM M00) := fn_pure 40 (by kernel_rfl)
end Ve
