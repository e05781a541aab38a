/- The statement Sessions, but for awake. -/
import Derived.Test.YtokhplohcachjaaGreatVeSF
import Derived.Test.YtokhplohcachjaaGreatVeSD
import Derived.Test.YtokhplohcachjaaGreatVeP
set_option linter.all false
set_option linter.unusedSectionVars false
namespace Ve
open Go Ve.Ab
set_option maxHeartbeats 16000000
set_option maxRecDepth 20000
theorem u_Sessions (i:Nat) (m:Ad) (hm:SmM m) (at_:Int) (haw:Aa (Lv ctx (i+28)) 21 []=some (bV true)):Aa (Lv ctx (i+29)) 3 [eM true m,iV at_]=some (bV true):=by
 have h1:=YP (i+26) true m hm
 have h2:=Ei (i+1) true m hm at_
 have h3:=Ps (i+16) true m hm at_
 have h6:=Ci (i+25) false true (Be m at_).1 (Be m at_).1 (IM hm _)
 have h8:=Ci (i+25) true true m m hm
 have h9:=Rq (i+25) (Be m at_).1 (IM hm _)
 simp only [Nat.add_assoc,Nat.reduceAdd] at h1 h2 h3 h6 h8 h9
 refine Ac rfl 0 (by rfl) ?_
 delta c3
 simp +contextual -dsimp -implicitDefEqProofs (maxSteps:=5000000) only [h1,h2,h3,h6,h8,h9,haw,go_sem,simprocAttr]
end Ve
