/- The closed run of BackForms. -/
import Derived.Test.YtdmcpcghdegheaaGreatU10
import Derived.Test.YtdmcpcghdegheaaGreatVeN
import Derived.KernelRfl
set_option linter.all false
set_option linter.unusedSectionVars false
namespace Ve
open Go Ve.Ab
theorem st07 : pureOf (Lv ctx 40) 32 [iV 0, iV 7] = some (oM M07) := fn_pure 40 (by kernel_rfl)
end Ve
