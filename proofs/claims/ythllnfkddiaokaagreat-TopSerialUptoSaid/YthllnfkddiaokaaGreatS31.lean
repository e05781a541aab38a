/- The reference's reckoning, storing, parking. -/
import Derived.Test.YthllnfkddiaokaaGreatVeSC
import Derived.Test.YthllnfkddiaokaaGreatVeN
set_option linter.all false
set_option linter.unusedSectionVars false
namespace Ve
open Go Ve.Ab
set_option maxHeartbeats 16000000
set_option maxRecDepth 10000
theorem fA {m:Ac} {at_:Int} (h:CJ m at_=none):CT m at_=(AA,1700):=by unfold CT;rw [h]
theorem oI {m:Ac} {at_:Int} {s:Ae} {x:AD} (h:CJ m at_=some (s,x)) (hc:x.code=0):CT m at_=(Bd m at_.toNat { s with regs:=(bI s.regs x.a x.b).1,pc:=s.pc+1 },0):=by unfold CT;rw [h];simp only [hc,if_true]
theorem oJ {m:Ac} {at_:Int} {s:Ae} {x:AD} (h:CJ m at_=some (s,x)) (hc:x.code=1):CT m at_=(Bd m at_.toNat { s with regs:=(fU s.regs x.a x.b).1,pc:=s.pc+1 },0):=by unfold CT;rw [h];simp only [hc,show ((1:Int)=0)=False by decide,if_true,if_false]
theorem eZ {m:Ac} {at_:Int} {s:Ae} {x:AD} (h:CJ m at_=some (s,x)) (hc:x.code=4):CT m at_=(Bd m at_.toNat { s with pc:=if s.regs.get x.a=0 then x.b else s.pc+1 },0):=by unfold CT;rw [h];simp only [hc,show ((4:Int)=0)=False by decide,show ((4:Int)=1)=False by decide,if_true,if_false]
theorem wT {m:Ac} {at_:Int} {s:Ae} {x:AD} (h:CJ m at_=some (s,x)) (h0:¬ x.code=0) (h1:¬ x.code=1) (h4:¬ x.code=4):CT m at_=(AA,1700):=by unfold CT;rw [h];simp only [h0,h1,h4,if_false]
end Ve
