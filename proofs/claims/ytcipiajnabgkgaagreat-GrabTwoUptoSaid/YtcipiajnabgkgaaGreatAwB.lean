/- What the closed runs of the seat's laws answer. -/
import Derived.Test.YtcipiajnabgkgaaGreatVeT
import Derived.Test.YtcipiajnabgkgaaGreatVeN
import Derived.KernelRfl
set_option linter.all false
set_option linter.unusedSectionVars false
namespace Ve
open Go
theorem aw19 : pureOf (Lv ctx 40) 24 [] = some (bV true) := fn_pure 40 (by kernel_rfl)
theorem aw18 : pureOf (Lv ctx 40) 31 [] = some (bV true) := fn_pure 40 (by kernel_rfl)
theorem aw21 : pureOf (Lv ctx 40) 13 [] = some (bV true) := fn_pure 40 (by kernel_rfl)
end Ve
