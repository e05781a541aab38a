/- The reference's grabbing, stamping, checking. -/
import Derived.Test.YthllnfkddiaokaaGreatS27
import Derived.Test.YthllnfkddiaokaaGreatVeSC
set_option linter.all false
set_option linter.unusedSectionVars false
namespace Ve
open Go Ve.Ab
set_option maxHeartbeats 16000000
set_option maxRecDepth 10000
theorem vA {m:Ac} {w:Aq} {j:Nat} {g:Aj} (hj:w.index=(j:Int)) (hg:(m.words.get w.level)[j]?=some g):AB m.words w.level w.index=g:=by
 unfold AB
 rw [hj,Int.toNat_natCast,hg];rfl
theorem Nb {m:Ac} {at_:Int} (h:Fw m at_ 1=none):Fh m at_=(AA,1800):=by unfold Fh;rw [h]
theorem uY {m:Ac} {at_:Int} {s:Ae} {w:Aq} {g:Aj} (h:Fw m at_ 1=some (s,w)) (hg:AB m.words w.level w.index=g) (hl:¬ g.lock=0):Fh m at_=Cy m at_ 3:=by
 unfold Fh;rw [h];simp only [hg,hl,if_false]
theorem uX {m:Ac} {at_:Int} {s:Ae} {w:Aq} {g:Aj} (h:Fw m at_ 1=some (s,w)) (hg:AB m.words w.level w.index=g) (hl:g.lock=0):Fh m at_=(Bd (Hl m w.level w.index ⟨g.val,g.ver,s.id+1⟩) at_.toNat { s with at_:=s.at_+1,step:=if s.at_+1=s.writes.length then 2 else s.step },0):=by
 unfold Fh;rw [h];simp only [hg,hl,if_true]
theorem uA {g:Aj} (hg:Ba g=true) {id:Int} (hi:inR id 254=true) (h:g.lock=0):Je g id=(⟨g.val,g.ver,id+1⟩,0):=by
 unfold Je;rw [hg,hi];simp only [h,Bool.and_self,if_true]
theorem uB {g:Aj} (hg:Ba g=true) {id:Int} (hi:inR id 254=true) (h:¬ g.lock=0):Je g id=(Jb,301):=by
 unfold Je;rw [hg,hi];simp only [h,Bool.and_self,if_true,if_false]
end Ve
