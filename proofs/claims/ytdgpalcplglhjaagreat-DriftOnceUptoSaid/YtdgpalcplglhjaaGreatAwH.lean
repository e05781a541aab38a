/- What the closed runs of DriftOnce answer. -/
import Derived.Test.YtdgpalcplglhjaaGreatVeT
import Derived.Test.YtdgpalcplglhjaaGreatLDriftOnce
import Derived.Test.YtdgpalcplglhjaaGreatVeN
import Derived.KernelRfl
set_option linter.all false
set_option linter.unusedSectionVars false
namespace Ve
open Go
theorem aw14:Aa (Lv ctx 40) 5 []=some (bV true):=Ws 40 (by kernel_rfl)
theorem hi14:Aa (Lv ctx 40) 6 [iV 3]=some (oM MHo):=Ws 40 (by kernel_rfl)
end Ve
