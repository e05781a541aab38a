/- Loops: what is dropped at their heads. -/
import Derived.Test.YtapgmjgledahiaaGreatVeN
set_option linter.all false
set_option linter.unusedSectionVars false
namespace Ve
open Go
theorem gl_normE {thr : Nat} {live : List Nat} {f : St → (Out → St → Option Ans) → Option Ans} {q : Out → St → Option Ans} {k : Nat} {s s' : St} {Q : V → Hp → Nat → Prop} {u : Dum f} {w : Dum q} (e : norm thr live s' = norm thr live s) : GL thr live f q k s' Q u w = GL thr live f q k s Q u w := by
  cases k with
  | zero => rfl
  | succ k =>
    rw [gLs, gLs]
    simp only [GN, normK]
    rw [e]
end Ve
