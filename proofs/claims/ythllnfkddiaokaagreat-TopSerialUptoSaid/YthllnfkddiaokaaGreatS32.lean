/- The reference's storing, parking. -/
import Derived.Test.YthllnfkddiaokaaGreatVeSC
import Derived.Test.YthllnfkddiaokaaGreatVeN
set_option linter.all false
set_option linter.unusedSectionVars false
namespace Ve
open Go Ve.Ab
set_option maxHeartbeats 16000000
set_option maxRecDepth 10000
theorem Lb {m:Ac} {at_:Int} (h:CJ m at_=none):Du m at_=(AA,1600):=by unfold Du;rw [h]
theorem gV {m:Ac} {at_:Int} {s:Ae} {x:AD} (h:CJ m at_=some (s,x)) (hc:¬ x.code=3):Du m at_=(AA,1600):=by unfold Du;rw [h];simp only [hc,if_false]
theorem gT {m:Ac} {k:Nat} {s:Ae} {x:AD} (h:CJ m k=some (s,x)) (hc:x.code=3):Du m k=(Bm (Bd m k { s with writes:=(He s.writes ⟨x.b,x.c,s.regs.get x.a⟩).1,pc:=s.pc+1 }) ⟨s.id,s.label,1,s.regs.get x.a⟩,0):=by unfold Du;rw [h];simp only [hc,if_true,Int.toNat_natCast]
theorem a0r {r:A4 Int} (h:Dx r=true) {a:Int} (ha:inR a 3=true):inR (r.get a) 255=true:=by
 simp only [Dx,A4.all,Bool.and_eq_true] at h
 unfold A4.get
 split
 ·exact h.1.1.1
 ·split
  ·exact h.1.1.2
  ·split
   ·exact h.1.2
   ·exact h.2
theorem MU {m:Ac} {at_:Int} (h:CJ m at_=none) (h':Gw m at_ 5=none):Dc m at_=(AA,2200):=by unfold Dc;rw [h];simp only [h']
theorem sW {m:Ac} {at_:Int} {s:Ae} {x:AD} (h:CJ m at_=some (s,x)) (hc:¬ x.code=5):Dc m at_=(AA,2200):=by unfold Dc;rw [h];simp only [hc,if_false]
theorem sV {m:Ac} {k:Nat} {s:Ae} {x:AD} (h:CJ m k=some (s,x)) (hc:x.code=5):Dc m k=(Bm (Bd m k { s with writes:=[],at_:=0,step:=5 }) ⟨s.id,s.label,4,s.reads.length⟩,0):=by unfold Dc;rw [h];simp only [hc,if_true,Int.toNat_natCast]
theorem cV {m:Ac} {at_:Int} {s:Ae} (h:CJ m at_=none) (h':Gw m at_ 5=some s) (hc:(BI m.words s.reads).1=true):Dc m at_=Cy m at_ 5:=by unfold Dc;rw [h];simp only [h',hc,if_true]
theorem cX {m:Ac} {at_:Int} {s:Ae} (h:CJ m at_=none) (h':Gw m at_ 5=some s) (hc:(BI m.words s.reads).1=false):Dc m at_=(m,0):=by unfold Dc;rw [h];simp only [h',hc,Bool.false_eq_true,if_false]
end Ve
