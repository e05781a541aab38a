/- veillaw23 is awake; its stepped machines. -/
import Derived.Test.YtokhplohcachjaaGreatVeSA
import Derived.Test.YtokhplohcachjaaGreatA23
import Derived.Test.YtokhplohcachjaaGreatVeSF
set_option linter.all false
set_option linter.unusedSectionVars false
namespace Ve
open Go Ve.Ab
set_option maxHeartbeats 16000000
set_option maxRecDepth 100000
theorem aw23:Aa (Lv ctx 40) 21 []=some (bV true):=by
 have h:=YS 26 8 (by omega) (fun j=>itM 0 j MB) fU zS
 exact mV 12 (fun j=>itM 0 j MB) fU mP h
theorem st23 (n:Nat) (hn:n≤7):Aa (Lv ctx 40) 22 [iV 0,iV (n:Int)]=some (oM (itU 0 n MB)):=by
 have h:=YS 27 n (by omega) (fun j=>itM 0 j MB) fU mP
 have e:itM 0 n MB=itU 0 n MB:=fU.eq n
 rw [← e]
 exact h
end Ve
