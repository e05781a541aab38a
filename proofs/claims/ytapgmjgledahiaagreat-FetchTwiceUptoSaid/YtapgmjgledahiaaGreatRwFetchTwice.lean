/- The statement FetchTwice: its row. -/
import Derived.Test.YtapgmjgledahiaaGreatVeR
import Derived.Test.YtapgmjgledahiaaGreatAwD
import Derived.Test.YtapgmjgledahiaaGreatLFetchTwice
set_option linter.all false
set_option linter.unusedSectionVars false
namespace Go.Proofs.YtapgmjgledahiaaGreat.fetchTwice
open Go Go.ChangeShapes Go.WideShapes Go.ChangeAt Go.RowKit Ve
set_option maxRecDepth 100000
theorem contract (i : Nat) (hcall : ∀ a0 : Int, pureOf (Lv ctx i) 14 [iV a0] = some (bV true)) (H : Type) (enc : TypeId × Value → H) (W : World) (base : Nat) (args : Array Value) (ds gs : List (DataW H)) (before : List MemPlace)
    (hval : ∀ (j : Nat) t v, Tryz.f14.params[j]? = some t → args[j]? = some v → Value.okWide Tryz.prog W .any base t v)
    (hW : DataW.Whole enc Tryz.prog Tryz.f14.params.toList Rows.fetchTwiceSpec.vars false W args.toList ds gs before) (hk : Rows.uptoSmall H (ds ++ gs) = true) :
    Calls Tryz.prog 14 args W fun e W' => ∃ v, e = .returned v ∧ Rows.fetchTwiceSpec.post enc Tryz.prog Tryz.f14 false true false false W args v W' := by
  have hW' := hW
  obtain ⟨p, q, hA0, hV, rfl, hfz, hnd⟩ := hW
  have hA : DataW.TrodAll enc Tryz.prog W 0 (fun _ => true) true Tryz.f14.params.toList args.toList ds p := hA0
  rw [Tryz.params14] at hA hval
  obtain ⟨v0, vs0, d0, ds0, p0, q0, hargs, rfl, rfl, h0, r0⟩ := trodAll_cons hA
  obtain ⟨rfl, rfl, rfl⟩ := trodAll_nil r0
  obtain rfl : args = #[v0] := by cases args; simp_all
  obtain ⟨rfl, rfl⟩ := trodVars_none hV
  have hsm := small_all hk
  obtain ⟨a0, rfl, rfl, rfl, w0⟩ := open_int Tryz.underlying3 (hval 0 3 v0 rfl rfl) h0
  refine (row_call tieOk (hcall a0) (args := [_]) (.lit .nil)).mono fun e W' ⟨he, g1, g2, g3⟩ => ?_
  subst he
  exact ⟨_, rfl, row_post laidOk (by rw [Tryz.params14]; intro t ht; simp at ht; subst ht; exact ⟨by kernel_rfl, of_decide_eq_true (by kernel_rfl)⟩) rfl rfl (tb := 4) (by kernel_rfl) Tryz.underlying4 hW' g1 g2 g3⟩
theorem lifted (hcall : ∃ i, ∀ a0 : Int, pureOf (Lv ctx i) 14 [iV a0] = some (bV true)) (os : Os) (started : os.Started) (H : Type) (enc : TypeId × Value → H) (F : Stop.Interp) :
    ReturnsInHanded {} Tryz.checked os 14 .any ((Rows.OpenSpec.upto Rows.fetchTwiceSpec).pre6 enc Tryz.prog Tryz.f14 Rows.fetchTwiceUptoRow.domain false) (((Rows.OpenSpec.upto Rows.fetchTwiceSpec).at F).post enc Tryz.prog Tryz.f14 false true false false) := by
  refine returnsInHanded_of_cond (C := Tryz.checked) (s := Rows.OpenSpec.upto Rows.fetchTwiceSpec) (k := Rows.uptoSmall) rfl own started (by kernel_rfl) Tryz.func14
    (OpenSpec.witness (enc := enc) (C := Tryz.checked) (s := Rows.OpenSpec.upto Rows.fetchTwiceSpec) (k := Rows.uptoSmall) rfl false
      ⟨#[], #[.int .i64 0], []⟩ 8 (by kernel_rfl) (by kernel_rfl) (by kernel_rfl)
      (x := ([.lit (.int .i64 0)], [], [])) (by kernel_rfl) rfl (by kernel_rfl)) ?_
  intro W base args ds gs before hval hW _ hk _
  obtain ⟨i, hc⟩ := hcall
  exact contract i hc H enc W base args ds gs before hval hW hk
theorem over (hcall : ∃ i, ∀ a0 : Int, pureOf (Lv ctx i) 14 [iV a0] = some (bV true)) : Rows.fetchTwiceUptoRow.holds Tryz.pinned (Rows.OpenSpec.upto Rows.fetchTwiceSpec) :=
  OpenClaim.holds_of_cond 14 Tryz.f14 rfl rfl rfl rfl rfl rfl rfl ⟨rfl, rfl, rfl, rfl, rfl⟩ rfl rfl rfl rfl rfl (by kernel_rfl) Tryz.func14 (by kernel_rfl)
    (of_decide_eq_true (by kernel_rfl)) (by unfold Func.isWrapper; first | (rw [if_pos (by decide +kernel)]; kernel_rfl) | (rw [if_neg (by decide +kernel)]; exact ⟨rfl, rfl⟩))
    (fun os started H enc _ F => lifted hcall os started H enc F)
/-- FetchTwice: for every input of the bound the law answers true, and each argument reads as before. -/
theorem holds : Rows.FetchTwiceUptoSaid := over ⟨41, fun a => u_FetchTwice a⟩
end Go.Proofs.YtapgmjgledahiaaGreat.fetchTwice
