/- What the closed runs of the seat's laws answer. -/
import Derived.Test.YtapgmjgledahiaaGreatVeT
import Derived.Test.YtapgmjgledahiaaGreatVeN
import Derived.Test.YtapgmjgledahiaaGreatPL43
import Derived.KernelRfl
set_option linter.all false
set_option linter.unusedSectionVars false
namespace Ve
open Go
theorem aw22 : pureOf (Lv ctx 40) 21 [] = some (bV true) := fn_pure 40 (by kernel_rfl)
theorem aw15 : pureOf (Lv ctx 40) 31 [] = some (bV true) := fn_pure 40 (by kernel_rfl)
theorem be22 : pureOf (Lv ctx 40) 26 [] = some (oM MB) := fn_pure 40 (by kernel_rfl)
theorem be15 : pureOf (Lv ctx 40) 33 [] = some (oM MB) := fn_pure 40 (by kernel_rfl)
theorem pk22 : pureOf (Lv ctx 40) 25 [] = some (oM (MPk 9 5 1)) := fn_pure 40 (by kernel_rfl)
theorem st22 : pureOf (Lv ctx 40) 28 [iV 0, iV 0] = some (oM MB) := fn_pure 40 (by kernel_rfl)
end Ve
