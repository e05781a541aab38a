/- What the closed runs of the seat's laws answer. -/
import Derived.Test.YtjllmdplakoanaaGreatVeT
import Derived.Test.YtjllmdplakoanaaGreatVeN
import Derived.KernelRfl
set_option linter.all false
set_option linter.unusedSectionVars false
namespace Ve
open Go
theorem aw14 : pureOf (Lv ctx 40) 20 [] = some (bV true) := fn_pure 40 (by kernel_rfl)
theorem aw20 : pureOf (Lv ctx 40) 29 [] = some (bV true) := fn_pure 40 (by kernel_rfl)
end Ve
