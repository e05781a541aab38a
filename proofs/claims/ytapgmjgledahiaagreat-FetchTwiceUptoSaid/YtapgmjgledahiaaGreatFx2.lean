/- A run that is closed from some place on. -/
import Derived.Test.YtapgmjgledahiaaGreatVeN
set_option linter.all false
set_option linter.unusedSectionVars false
namespace Ve
open Go
def finB : Option Ans → Bool
  | some (.lit (.bool b), _, _) => b
  | _ => false
theorem finB_fin {x : Option Ans} (h : finB x = true) : ∃ hp n, x = some (bV true, hp, n) := by
  unfold finB at h
  split at h
  · cases h; exact ⟨_, _, rfl⟩
  · cases h
theorem clQ_true (h : Hp) (n : Nat) : ClQ (bV true) (bV true) h n := by
  show ClQ (.lit (.bool true)) (.lit (.bool true)) h n
  simp [ClQ, close, depth, AM.run, V.perm, V.nice, V.nice1, V.cells, ones, V.one]
/-- the rest of a law, by a reckoning -/
theorem fin_fn {C : Ctx} {i k : Nat} {ir : IR} {s : St} {rs : List ResultVar} {ts : List TypeId} (h : finB (evC C (evFn C i) (pureOf (evFn C i)) k ir s (endR C.L rs ts)) = true) : Fin (evC C (Lv C i) (pureOf (Lv C i)) k ir s (endR C.L rs ts)) (ClQ (bV true)) := by
  obtain ⟨hp, n, e⟩ := finB_fin h
  exact ⟨_, hp, n, ((evC_le (fn_lv i) (pureOf_le (fn_lv i)) (Nat.le_refl k) ir).1 s _ _ (fun _ _ h => h) e), clQ_true hp n⟩
end Ve
