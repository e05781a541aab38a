/- What a label sees of a script's run is what it sees of its part. -/
import Derived.Test.YtjgbbmcjbfpjfaaGreatPL24
import Derived.Test.YtjgbbmcjbfpjfaaGreatVeP
set_option linter.all false
set_option linter.unusedSectionVars false
namespace Ve
open Go
theorem uX {g:Int} {s t:Aq} (h:aF g s t):Eqv g (AW s) (AW t):=by
 refine ⟨h.ceil,fun a ha hu=>?_,fun a ha hu=>rfl,?_,rfl⟩
 ·show (Cc s.words).get a=(Cc t.words).get a
  rw [Zs,Zs,h.row a ha hu]
 ·show (s.starts.map Cb).filter _=(t.starts.map Cb).filter _
  rw [LN,LN,h.starts]
theorem Tp {g:Int} (hg:inR g 3=true) {s t:Aq} (hs:Au s=true) (ht:Au t=true) (h:aF g s t):Bf (Bq s).1 g=Bf (Bq t).1 g:=by
 obtain ⟨_,i1,r1,_,_⟩:=Hy hs
 obtain ⟨_,i2,r2,_,_⟩:=Hy ht
 rw [r1,r2]
 simp only [Au,Bool.and_eq_true,decide_eq_true_eq] at hs ht
 have z1:(AW s).trace.length=0:=rfl
 have z2:(AW t).trace.length=0:=rfl
 exact fV (qZ hg i1 i2 hs.2 ht.2 (uX h) h.slots (by omega) (by omega) (by omega))
theorem yL {g:Int} (hg:inR g 3=true) {s:Aq} (h:Au s=true):Bf (Bq s).1 g=Bf (Bq (Bc s g)).1 g:=by
 obtain ⟨h1,h2⟩:=MQ h
 refine Tp hg h (MI h g) (fZ ?_)
 rw [Ns hg hg h1 h2,eP hg]
end Ve
