/- The closed run of UndoForms, and its law. -/
import Derived.Test.YtdmcpcghdegheaaGreatU7
import Derived.Test.YtdmcpcghdegheaaGreatVeN
import Derived.KernelRfl
set_option linter.all false
set_option linter.unusedSectionVars false
namespace Ve
open Go Ve.Ab
theorem st05 : pureOf (Lv ctx 40) 24 [iV 0, iV 5] = some (oM M05) := fn_pure 40 (by kernel_rfl)
end Ve
