/- One session alone, on the models: what the statement asks after each step. -/
import Derived.Test.YthllnfkddiaokaaGreatVeP
import Derived.Test.YthllnfkddiaokaaGreatPL33
set_option linter.all false
set_option linter.unusedSectionVars false
namespace Ve
open Go
theorem Se (k:Nat):∀ (n:Nat) (m:Ac),Cr k (n+1) m=(BV (Cr k n m) k).1
 | 0,_=>rfl
 | n+1,m=>Se k n (BV m k).1
theorem Ie {k:Nat} {m:Ac} {s:Ae} (hs:m.sess[k]?=some s) (hI:Do m) (hA:KX m s):∀ j,∃ t,(Cr k j m).sess[k]?=some t∧Do (Cr k j m)∧KX (Cr k j m) t∧(Cr k j m).sess.length=m.sess.length
 | 0=>⟨s,hs,hI,hA,rfl⟩
 | j+1=>by
  obtain ⟨t,h1,h2,h3,h4⟩:=Ie hs hI hA j
  obtain ⟨t',A,e,g1,g2,g3,_,_⟩:=Lw h1 h2 h3
  have e2:Cr k (j+1) m=A:=by rw [Se,e]
  rw [e2]
  exact ⟨t',by rw [g1];exact List.getElem?_set_self (Ax h1),g2,g3,by rw [g1,List.length_set,h4]⟩
theorem WO {k:Nat} {m:Ac} {s:Ae} (hs:m.sess[k]?=some s) (hI:Do m) (hA:KX m s) (j:Nat):BV (Cr k j m) k=(Cr k (j+1) m,0):=by
 obtain ⟨t,h1,h2,h3,_⟩:=Ie hs hI hA j
 obtain ⟨t',A,e,_⟩:=Lw h1 h2 h3
 rw [Se,e]
theorem UB {k:Nat}:∀ (j:Nat) {m:Ac},SmM m→SmM (Cr k j m)
 | 0,_,h=>h
 | j+1,m,h=>UB j (YA h k)
end Ve
