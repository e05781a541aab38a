/- The statement FetchOwn: its row. -/
import Derived.Test.YtapgmjgledahiaaGreatVeR
import Derived.Test.YtapgmjgledahiaaGreatAwD
import Derived.Test.YtapgmjgledahiaaGreatLFetchOwn
set_option linter.all false
set_option linter.unusedSectionVars false
namespace Go.Proofs.YtapgmjgledahiaaGreat.fetchOwn
open Go Go.ChangeShapes Go.WideShapes Go.ChangeAt Go.RowKit Ve
set_option maxRecDepth 100000
theorem contract (i : Nat) (hcall : ∀ a0 : Int, ∀ b1 : Bool, pureOf (Lv ctx i) 11 [iV a0, bV b1] = some (bV true)) (H : Type) (enc : TypeId × Value → H) (W : World) (base : Nat) (args : Array Value) (ds gs : List (DataW H)) (before : List MemPlace)
    (hval : ∀ (j : Nat) t v, Tryz.f11.params[j]? = some t → args[j]? = some v → Value.okWide Tryz.prog W .any base t v)
    (hW : DataW.Whole enc Tryz.prog Tryz.f11.params.toList Rows.fetchOwnSpec.vars false W args.toList ds gs before) (hk : Rows.uptoSmall H (ds ++ gs) = true) :
    Calls Tryz.prog 11 args W fun e W' => ∃ v, e = .returned v ∧ Rows.fetchOwnSpec.post enc Tryz.prog Tryz.f11 false true false false W args v W' := by
  have hW' := hW
  obtain ⟨p, q, hA0, hV, rfl, hfz, hnd⟩ := hW
  have hA : DataW.TrodAll enc Tryz.prog W 0 (fun _ => true) true Tryz.f11.params.toList args.toList ds p := hA0
  rw [Tryz.params11] at hA hval
  obtain ⟨v0, vs0, d0, ds0, p0, q0, hargs, rfl, rfl, h0, r0⟩ := trodAll_cons hA
  obtain ⟨v1, vs1, d1, ds1, p1, q1, rfl, rfl, rfl, h1, r1⟩ := trodAll_cons r0
  obtain ⟨rfl, rfl, rfl⟩ := trodAll_nil r1
  obtain rfl : args = #[v0, v1] := by cases args; simp_all
  obtain ⟨rfl, rfl⟩ := trodVars_none hV
  have hsm := small_all hk
  obtain ⟨a0, rfl, rfl, rfl, w0⟩ := open_int Tryz.underlying3 (hval 0 3 v0 rfl rfl) h0
  obtain ⟨b1, rfl, rfl, rfl⟩ := open_bool Tryz.underlying4 (hval 1 4 v1 rfl rfl) h1
  refine (row_call tieOk (hcall a0 b1) (args := [_, _]) (.lit (.lit .nil))).mono fun e W' ⟨he, g1, g2, g3⟩ => ?_
  subst he
  exact ⟨_, rfl, row_post laidOk (by rw [Tryz.params11]; intro t ht; simp at ht; rcases ht with rfl | rfl <;> exact ⟨by kernel_rfl, of_decide_eq_true (by kernel_rfl)⟩) rfl rfl (tb := 4) (by kernel_rfl) Tryz.underlying4 hW' g1 g2 g3⟩
theorem lifted (hcall : ∃ i, ∀ a0 : Int, ∀ b1 : Bool, pureOf (Lv ctx i) 11 [iV a0, bV b1] = some (bV true)) (os : Os) (started : os.Started) (H : Type) (enc : TypeId × Value → H) (F : Stop.Interp) :
    ReturnsInHanded {} Tryz.checked os 11 .any ((Rows.OpenSpec.upto Rows.fetchOwnSpec).pre6 enc Tryz.prog Tryz.f11 Rows.fetchOwnUptoRow.domain false) (((Rows.OpenSpec.upto Rows.fetchOwnSpec).at F).post enc Tryz.prog Tryz.f11 false true false false) := by
  refine returnsInHanded_of_cond (C := Tryz.checked) (s := Rows.OpenSpec.upto Rows.fetchOwnSpec) (k := Rows.uptoSmall) rfl own started (by kernel_rfl) Tryz.func11
    (OpenSpec.witness (enc := enc) (C := Tryz.checked) (s := Rows.OpenSpec.upto Rows.fetchOwnSpec) (k := Rows.uptoSmall) rfl false
      ⟨#[], #[.int .i64 0, .bool false], []⟩ 8 (by kernel_rfl) (by kernel_rfl) (by kernel_rfl)
      (x := ([.lit (.int .i64 0), .lit (.bool false)], [], [])) (by kernel_rfl) rfl (by kernel_rfl)) ?_
  intro W base args ds gs before hval hW _ hk _
  obtain ⟨i, hc⟩ := hcall
  exact contract i hc H enc W base args ds gs before hval hW hk
theorem over (hcall : ∃ i, ∀ a0 : Int, ∀ b1 : Bool, pureOf (Lv ctx i) 11 [iV a0, bV b1] = some (bV true)) : Rows.fetchOwnUptoRow.holds Tryz.pinned (Rows.OpenSpec.upto Rows.fetchOwnSpec) :=
  OpenClaim.holds_of_cond 11 Tryz.f11 rfl rfl rfl rfl rfl rfl rfl ⟨rfl, rfl, rfl, rfl, rfl⟩ rfl rfl rfl rfl rfl (by kernel_rfl) Tryz.func11 (by kernel_rfl)
    (of_decide_eq_true (by kernel_rfl)) (by unfold Func.isWrapper; first | (rw [if_pos (by decide +kernel)]; kernel_rfl) | (rw [if_neg (by decide +kernel)]; exact ⟨rfl, rfl⟩))
    (fun os started H enc _ F => lifted hcall os started H enc F)
/-- FetchOwn: for every input of the bound the law answers true, and each argument reads as before. -/
theorem holds : Rows.FetchOwnUptoSaid := over ⟨41, fun a b => u_FetchOwn 16 a b aw15 be15⟩
end Go.Proofs.YtapgmjgledahiaaGreat.fetchOwn
