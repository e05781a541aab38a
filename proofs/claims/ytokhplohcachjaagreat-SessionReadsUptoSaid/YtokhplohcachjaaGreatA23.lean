/- What the closed runs of veillaw23 answer. -/
import Derived.Test.YtokhplohcachjaaGreatVeSF
import Derived.Test.YtokhplohcachjaaGreatVeSD
import Derived.Test.YtokhplohcachjaaGreatVeP
set_option linter.all false
set_option linter.unusedSectionVars false
namespace Ve
open Go Ve.Ab
set_option maxHeartbeats 16000000
set_option maxRecDepth 20000
theorem YS (i n:Nat) (hn:n≤8) (M:Nat→Ad) (R:sL M) (hbe:Aa (Lv ctx (i+12)) 23 []=some (oM MB)):Aa (Lv ctx (i+13)) 22 [iV 0,iV (n:Int)]=some (oM (M n)):=by
 have f:∀ j,Aa (Lv ctx (i+12)) 17 [eM false (M j),iV 0]=some (.tup [oM (M (j+1)),iV 0]):=by
  intro j
  have:=Ps (i+0) false (M j) (R.sm j) 0
  rw [R.st j] at this
  exact this
 have w6:IntKind.wrap .i64 6=6:=rfl
 have w7:IntKind.wrap .i64 7=7:=rfl
 have w8:IntKind.wrap .i64 8=8:=rfl
 rw [← R.z] at hbe
 clear R
 obtain rfl | rfl | rfl | rfl | rfl | rfl | rfl | rfl | rfl:n=0∨n=1∨n=2∨n=3∨n=4∨n=5∨n=6∨n=7∨n=8:=by omega
 all_goals
  refine Ac rfl 10 (by rfl) ?_
  delta c22
  simp +contextual -dsimp -implicitDefEqProofs (maxSteps:=5000000) only [hbe,f,w6,w7,w8,gLs,↓Aj (mN.eq_1),go_sem,simprocAttr]
end Ve
