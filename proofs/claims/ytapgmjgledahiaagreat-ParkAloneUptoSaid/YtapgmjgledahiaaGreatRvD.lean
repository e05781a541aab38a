/- Lists of numbers, as arguments of a row. -/
import Derived.Test.YtapgmjgledahiaaGreatVeR
set_option linter.all false
set_option linter.unusedSectionVars false
namespace Ve
open Go
section
variable {H : Type} {enc : TypeId × Value → H} {w : World} {sp : Nat → Bool} {sm : DataW H → Prop}
theorem rdI2 (_ : SmOk sm) : Enc enc Go.Proofs.Tryz.prog w sp sm 3 1 (fun vs => ∃ a : Int, True ∧ vs = (iV a).cells) := fun fuel cs x h hs => by obtain ⟨vs, ⟨n, rfl⟩, r⟩ := rdI fuel cs x h hs; exact ⟨_, ⟨n, trivial, rfl⟩, r⟩
theorem rdVs (hsm : SmOk sm) : Enc enc Go.Proofs.Tryz.prog w sp sm 51 1 (fun vs => ∃ l : List Int, (∀ a ∈ l, (fun _ => True) a) ∧ l.length ≤ 1048576 ∧ vs = [.isl true false 1 (l.map iV)]) := enc_slice hsm Go.Proofs.Tryz.underlying51 (by kernel_rfl) (by decide) (rdI2 hsm) (fun _ => rfl)
end
end Ve
namespace Go.Proofs.YtapgmjgledahiaaGreat
open Go Go.ChangeShapes Go.WideShapes Go.ChangeAt Go.RowKit Ve
set_option maxRecDepth 100000
theorem argV {H : Type} {enc : TypeId × Value → H} {w : World} {sp : Nat → Bool} {r : Reach} {b0 : Nat} {v : Value} {d : DataW H} {p : List MemPlace} (hval : Value.okWide Tryz.prog w r b0 51 v) (hd : DataW.Trod enc Tryz.prog w 0 sp true 51 v d p) (hs : smD d) :
    ∃ l : List Int, l.length ≤ 1048576 ∧ R1 (rdE w) .P (.isl true false 1 (l.map iV)) v [] := by
  obtain ⟨fuel, h⟩ := hd
  have hv : v.cells.toList = [v] := by
    simp only [Value.okWide, Tryz.underlying51, Cell.okWide] at hval
    cases v with
    | agg cs => simp [Cell.ok, Tryz.underlying51] at hval
    | _ => simp [Value.cells]
  obtain ⟨vs, ⟨l, _, hl, rfl⟩, hr, _, _⟩ := rdVs smOk fuel _ _ h hs
  rw [hv] at hr
  exact ⟨l, hl, hr⟩
end Go.Proofs.YtapgmjgledahiaaGreat
