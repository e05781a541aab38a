/- What the closed runs of the seat's laws answer. -/
import Derived.Test.YtdmcpcghdegheaaGreatVeT
import Derived.Test.YtdmcpcghdegheaaGreatVeN
import Derived.KernelRfl
set_option linter.all false
set_option linter.unusedSectionVars false
namespace Ve
open Go Ve.Ab
theorem aw13 : pureOf (Lv ctx 40) 22 [] = some (bV true) := fn_pure 40 (by kernel_rfl)
theorem aw21 : pureOf (Lv ctx 40) 31 [] = some (bV true) := fn_pure 40 (by kernel_rfl)
end Ve
