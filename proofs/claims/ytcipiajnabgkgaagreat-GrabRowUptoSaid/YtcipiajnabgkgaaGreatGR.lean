/- The statement GrabRow: how it begins. -/
import Derived.Test.YtcipiajnabgkgaaGreatEGrabRow
import Derived.Test.YtcipiajnabgkgaaGreatAwB
import Derived.Test.YtcipiajnabgkgaaGreatFx2
import Derived.Test.YtcipiajnabgkgaaGreatVeN
import Derived.Test.YtcipiajnabgkgaaGreatAr
import Derived.Test.YtcipiajnabgkgaaGreatPLb
import Derived.Test.YtcipiajnabgkgaaGreatS1
set_option linter.all false
set_option linter.unusedSectionVars false
namespace Ve
open Go Ve.Ab
set_option maxHeartbeats 16000000
set_option maxRecDepth 20000
theorem be18 : pureOf (Lv ctx 40) 33 [] = some (oM MB) := fn_pure 40 (by kernel_rfl)
end Ve
