/- The reference's steps, all. -/
import Derived.Test.YthllnfkddiaokaaGreatS29
import Derived.Test.YthllnfkddiaokaaGreatVeSE
import Derived.Test.YthllnfkddiaokaaGreatS31
import Derived.Test.YthllnfkddiaokaaGreatS32
import Derived.Test.YthllnfkddiaokaaGreatS33
set_option linter.all false
set_option linter.unusedSectionVars false
namespace Ve
open Go Ve.Ab
set_option maxHeartbeats 16000000
set_option maxRecDepth 10000
theorem bA {m:Ac} {at_:Int} (h:Cs m at_=false):BV m at_=(AA,2300):=by unfold BV;rw [h];rfl
theorem qH {m:Ac} {k:Nat} {s:Ae} (hs:m.sess[k]?=some s) (hM:Br m) (h:(CP m k s).2=0):BV m k=((CP m k s).1,0):=by
 unfold BV;rw [CW hs hM];simp only [if_true,Int.toNat_natCast,hs,h]
theorem gW {m:Ac} {k:Nat} {s:Ae} (hs:m.sess[k]?=some s) (hM:Br m) (h:¬ (CP m k s).2=0):BV m k=(AA,2300):=by
 unfold BV;rw [CW hs hM];simp only [if_true,Int.toNat_natCast,hs,h,if_false]
end Ve
