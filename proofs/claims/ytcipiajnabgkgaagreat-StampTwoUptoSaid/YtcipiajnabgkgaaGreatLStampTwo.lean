/- The statement StampTwo: two closed runs. -/
import Derived.Test.YtcipiajnabgkgaaGreatVeT
import Derived.Test.YtcipiajnabgkgaaGreatVeN
import Derived.KernelRfl
set_option linter.all false
set_option linter.unusedSectionVars false
namespace Ve
open Go
theorem u_StampTwo (b : Bool) : pureOf (Lv ctx 41) 7 [bV b] = some (bV true) := by
  cases b
  · exact fn_pure 41 (by kernel_rfl)
  · exact fn_pure 41 (by kernel_rfl)
end Ve
