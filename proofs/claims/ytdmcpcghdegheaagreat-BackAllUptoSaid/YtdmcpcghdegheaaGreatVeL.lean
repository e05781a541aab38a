/- What a program's types must be for the evaluator: lemmas. -/
import Derived.Test.YtdmcpcghdegheaaGreatVeC
import Derived.Laws.StructEq
import Derived.ChangeKeysEq
import Derived.Test.YtdmcpcghdegheaaGreatVeT
import Derived.Test.YtdmcpcghdegheaaGreatProg
import Derived.KernelRfl
import Derived.WalkKit
import Derived.ProofKit
import Derived.Lib.SliceRun
set_option linter.all false
set_option linter.unusedSectionVars false
namespace Ve
open Go
theorem str_of {P : Program} : ∀ {fields : List Field} {fs : List (Nat × Nat)}, fields.mapM (fun f => (P.info? f.type).map fun i => (f.offset, i.size)) = some fs → (fs.all fun p => p.2 != 0) = true →
    ∀ (j : Nat) (p : Nat × Nat), fs[j]? = some p → ∃ f : Field, fields[j]? = some f ∧ f.offset = p.1 ∧ (∃ i, P.info? f.type = some i ∧ i.size = p.2) ∧ p.2 ≠ 0
  | [], fs, h, hz, j, p, hj => by simp at h; subst h; simp at hj
  | f :: fields, fs, h, hz, j, p, hj => by
    simp only [List.mapM_cons, Option.bind_eq_bind, Option.bind_eq_some_iff, Option.map_eq_some_iff] at h
    obtain ⟨q, ⟨i, hi, rfl⟩, r, hr, h⟩ := h
    simp only [Option.pure_def, Option.some.injEq] at h
    subst h
    simp only [List.all_cons, Bool.and_eq_true] at hz
    cases j with
    | zero => simp at hj; subst hj; exact ⟨f, rfl, rfl, ⟨i, hi, rfl⟩, by simpa using hz.1⟩
    | succ j => simpa using str_of hr hz.2 j p (by simpa using hj)
theorem eqc_inv {a b : Value} {xs ys : List Value} {r : Bool} (h : eqCells (V.lit a :: xs.map V.lit) (V.lit b :: ys.map V.lit) = some r) :
    ∃ k x y z, a = .int k x ∧ b = .int k y ∧ eqCells (xs.map V.lit) (ys.map V.lit) = some z ∧ r = (decide (x = y) && z) := by
  simp only [eqCells] at h
  split at h
  · rename_i x z hx hz
    simp only [Option.some.injEq] at h
    unfold cellEq at hx
    split at hx
    · rename_i e1 e2
      cases e1; cases e2
      split at hx
      · rename_i hk; subst hk
        simp only [Option.some.injEq] at hx
        exact ⟨_, _, _, z, rfl, rfl, hz, by rw [← h, ← hx]⟩
      · cases hx
    · cases hx
  · cases h
theorem eqc_cons {xs ys : List Value} {r : Bool} (h : eqCells (xs.map V.lit) (ys.map V.lit) = some r) (hl : 0 < xs.length) :
    ∃ k x y z xs' ys', xs = .int k x :: xs' ∧ ys = .int k y :: ys' ∧ eqCells (xs'.map V.lit) (ys'.map V.lit) = some z ∧ r = (decide (x = y) && z) := by
  cases xs with
  | nil => simp at hl
  | cons a xs =>
    cases ys with
    | nil => simp [eqCells] at h
    | cons b ys =>
      obtain ⟨k, x, y, z, rfl, rfl, hz, hr⟩ := eqc_inv h
      exact ⟨k, x, y, z, xs, ys, rfl, rfl, hz, hr⟩
theorem run_part_int {P : Program} (w : World) {t : TypeId} {k : IntKind} (ht : P.underlying t = some (.int k)) {xs : Array Value} {off : Nat} {v : Value} (hx : xs[off]? = some v) : (part t xs off).run P w = .ok v w := by
  simp [part, isAgg, run_underlying ht, hx]
/-- a struct of integers, one behind another -/
def intFields (P : Program) : Nat → List Field → Bool
  | _, [] => true
  | j, f :: r => (f.name != "_") && (f.offset == j) && (match P.underlying f.type with | some (.int _) => true | _ => false) && intFields P (j + 1) r
theorem eqFields_ok {P : Program} (w : World) (d : Nat) : ∀ (fs : List Field) (px py xs ys : List Value) (r : Bool), px.length = py.length → intFields P px.length fs = true → xs.length = fs.length → eqCells (xs.map V.lit) (ys.map V.lit) = some r →
    (Op.eqFields (d + 1) (px ++ xs).toArray (py ++ ys).toArray fs).run P w = .ok r w
  | [], px, py, xs, ys, r, hp, hf, hl, h => by
    have : xs = [] := by simpa using hl
    subst this
    cases ys with
    | nil => simp [eqCells] at h; subst h; simp [Op.eqFields]
    | cons b ys => simp [eqCells] at h
  | f :: fs, px, py, xs, ys, r, hp, hf, hl, h => by
    obtain ⟨k, x, y, z, xs', ys', rfl, rfl, hz, rfl⟩ := eqc_cons h (by simp at hl; omega)
    simp only [intFields, Bool.and_eq_true, bne_iff_ne, ne_eq, beq_iff_eq] at hf
    obtain ⟨⟨⟨h1, h2⟩, h3⟩, h4⟩ := hf
    cases hu : P.underlying f.type with
    | none => simp [hu] at h3
    | some dd =>
      cases dd <;> simp [hu] at h3
      rename_i kk
      have ih := eqFields_ok w d fs (px ++ [.int k x]) (py ++ [.int k y]) xs' ys' z (by simp [hp]) (by simpa using h4) (by simpa using hl) hz
      have e1 : (px ++ Value.int k x :: xs').toArray[f.offset]? = some (.int k x) := by simp [h2]
      have e2 : (py ++ Value.int k y :: ys').toArray[f.offset]? = some (.int k y) := by simp [h2, hp]
      simp only [Op.eqFields, ne_eq, h1, not_false_eq_true, if_true, Sem.run_bind, run_part_int w hu e1, run_part_int w hu e2, Result.andThen_ok, run_equalIn_int w d f.type k kk x y hu]
      by_cases hxy : x = y
      · subst hxy
        simp only [beq_self_eq_true, Bool.not_true, Bool.false_eq_true, if_false, decide_true, Bool.true_and]
        simpa using ih
      · simp [hxy]
theorem eqItems_ok {P : Program} (w : World) (d : Nat) {e : TypeId} {k0 : IntKind} (he : P.underlying e = some (.int k0)) : ∀ (n j : Nat) (px py xs ys : List Value) (r : Bool), px.length = j → py.length = j → xs.length = n → eqCells (xs.map V.lit) (ys.map V.lit) = some r →
    (Op.eqItems (d + 1) e 1 (px ++ xs).toArray (py ++ ys).toArray (List.range' j n)).run P w = .ok r w
  | 0, j, px, py, xs, ys, r, hp, hp', hl, h => by
    have : xs = [] := by simpa using hl
    subst this
    cases ys with
    | nil => simp [eqCells] at h; subst h; simp [Op.eqItems]
    | cons b ys => simp [eqCells] at h
  | n + 1, j, px, py, xs, ys, r, hp, hp', hl, h => by
    obtain ⟨k, x, y, z, xs', ys', rfl, rfl, hz, rfl⟩ := eqc_cons h (by omega)
    have ih := eqItems_ok w d he n (j + 1) (px ++ [.int k x]) (py ++ [.int k y]) xs' ys' z (by simp [hp]) (by simp [hp']) (by simpa using hl) hz
    have e1 : (px ++ Value.int k x :: xs').toArray[j * 1]? = some (.int k x) := by simp [hp]
    have e2 : (py ++ Value.int k y :: ys').toArray[j * 1]? = some (.int k y) := by simp [hp']
    simp only [List.range'_succ, Op.eqItems, Sem.run_bind, run_part_int w he e1, run_part_int w he e2, Result.andThen_ok, run_equalIn_int w d e k k0 x y he]
    by_cases hxy : x = y
    · subst hxy
      simp only [beq_self_eq_true, Bool.not_true, Bool.false_eq_true, if_false, decide_true, Bool.true_and]
      simpa using ih
    · simp [hxy]
abbrev PlainAt (P : Program) (t : TypeId) (size : Nat) : Prop := ∀ (xs ys : List Value) (r : Bool), eqCells (xs.map V.lit) (ys.map V.lit) = some r → xs.length = size → ∀ (x y : Operand) (w : World),
    ((do eqGuard .eql t x y (.agg xs.toArray) (.agg ys.toArray); binOp .eql t (.agg xs.toArray) (.agg ys.toArray) : Sem Value)).run P w = .ok (.bool r) w ∧
    ((do eqGuard .neq t x y (.agg xs.toArray) (.agg ys.toArray); binOp .neq t (.agg xs.toArray) (.agg ys.toArray) : Sem Value)).run P w = .ok (.bool (!r)) w
theorem plain_of {P : Program} {t : TypeId} {size : Nat} (hm : P.eqGuardType P.depth t = false) (h : ∀ (xs ys : List Value) (r : Bool), eqCells (xs.map V.lit) (ys.map V.lit) = some r → xs.length = size → ∀ w, (Op.equalIn 10000 t (.agg xs.toArray) (.agg ys.toArray)).run P w = .ok r w) : PlainAt P t size := by
  intro xs ys r he hl x y w
  have := h xs ys r he hl w
  constructor
  · simp only [Sem.run_bind, run_eqGuard_agg w _ t x y _ _ hm, Result.andThen_ok, run_eql_struct, this]
  · simp only [Sem.run_bind, run_eqGuard_agg w _ t x y _ _ hm, Result.andThen_ok, run_neq_struct, this]
theorem plain_struct {P : Program} {t : TypeId} {size : Nat} (hm : P.eqGuardType P.depth t = false) (ht : P.underlying t = some (.struct (P.fieldsOf t))) (hp : P.stoodInHeld t = false) (hf : intFields P 0 (P.fieldsOf t).toList = true) (hl : (P.fieldsOf t).toList.length = size) : PlainAt P t size :=
  plain_of hm fun xs ys r he hs w => by
    rw [show (10000 : Nat) = 9998 + 1 + 1 from rfl, run_equalIn_agg w (9998 + 1) t _ _ ht hp]
    exact eqFields_ok w 9998 _ [] [] xs ys r rfl hf (by omega) he
theorem plain_arr {P : Program} {t e : TypeId} {n : Nat} {k : IntKind} {i : TypeInfo} (hm : P.eqGuardType P.depth t = false) (ht : P.underlying t = some (.array n e)) (hi : P.info? e = some i) (he : P.underlying e = some (.int k)) (hc : P.cellsOf e = 1) : PlainAt P t n :=
  plain_of hm fun xs ys r hq hs w => by
    rw [show (10000 : Nat) = 9998 + 1 + 1 from rfl, run_equalIn_array w (9998 + 1) _ _ ht hi, hc, List.range_eq_range']
    exact eqItems_ok w 9998 he n 0 [] [] xs ys r rfl rfl hs hq
theorem rs_agg0 {E : Env} {m : Md} {cs : List V} {ys : List Value} {vs : List V} {xs : List Value} (h : Rs E m cs ys []) (h' : Rs E m vs xs []) : Rs E m (.agg cs :: vs) (.agg ys.toArray :: xs) [] := Rs.agg h h'
end Ve

/- Each type of the tables is the program's. -/
namespace Ve
open Go
set_option maxRecDepth 10000
set_option linter.unusedVariables false
theorem ly1 : TiOk Go.Proofs.Tryz.prog lay 1 y1 :=
  ⟨⟨(Go.Proofs.Tryz.prog.info? 1).get (by kernel_rfl), (Option.some_get _).symm, by kernel_rfl, by kernel_rfl, (.nilFunc), by kernel_rfl, (fun E => (.lit .nil))⟩, by decide, by decide, rfl, by decide, rfl, ⟨(Go.Proofs.Tryz.prog.underlying 1).get (by kernel_rfl), (Option.some_get _).symm, by kernel_rfl⟩,
   (fun fs h => by cases h), (fun n el h => by cases h), (fun el h => by cases h), (fun k h => by cases h), (fun h => by cases h), (fun h => by cases h)⟩
theorem ly2 : TiOk Go.Proofs.Tryz.prog lay 2 y2 :=
  ⟨⟨(Go.Proofs.Tryz.prog.info? 2).get (by kernel_rfl), (Option.some_get _).symm, by kernel_rfl, by kernel_rfl, (.int .i64 0), by kernel_rfl, (fun E => (.lit .nil))⟩, by decide, by decide, rfl, by decide, rfl, ⟨(Go.Proofs.Tryz.prog.underlying 2).get (by kernel_rfl), (Option.some_get _).symm, by kernel_rfl⟩,
   (fun fs h => by cases h), (fun n el h => by cases h), (fun el h => by cases h), (fun k h => by cases h; kernel_rfl), (fun h => by cases h), (fun h => by cases h)⟩
theorem ly3 : TiOk Go.Proofs.Tryz.prog lay 3 y3 :=
  ⟨⟨(Go.Proofs.Tryz.prog.info? 3).get (by kernel_rfl), (Option.some_get _).symm, by kernel_rfl, by kernel_rfl, (.int .i64 0), by kernel_rfl, (fun E => (.lit .nil))⟩, by decide, by decide, rfl, by decide, rfl, ⟨(Go.Proofs.Tryz.prog.underlying 3).get (by kernel_rfl), (Option.some_get _).symm, by kernel_rfl⟩,
   (fun fs h => by cases h), (fun n el h => by cases h), (fun el h => by cases h), (fun k h => by cases h; kernel_rfl), (fun h => by cases h), (fun h => by cases h)⟩
theorem ly4 : TiOk Go.Proofs.Tryz.prog lay 4 y4 :=
  ⟨⟨(Go.Proofs.Tryz.prog.info? 4).get (by kernel_rfl), (Option.some_get _).symm, by kernel_rfl, by kernel_rfl, (.bool false), by kernel_rfl, (fun E => (.lit .nil))⟩, by decide, by decide, rfl, by decide, rfl, ⟨(Go.Proofs.Tryz.prog.underlying 4).get (by kernel_rfl), (Option.some_get _).symm, by kernel_rfl⟩,
   (fun fs h => by cases h), (fun n el h => by cases h), (fun el h => by cases h), (fun k h => by cases h), (fun h => by kernel_rfl), (fun h => by cases h)⟩
theorem ly5 : TiOk Go.Proofs.Tryz.prog lay 5 y5 :=
  ⟨⟨(Go.Proofs.Tryz.prog.info? 5).get (by kernel_rfl), (Option.some_get _).symm, by kernel_rfl, by kernel_rfl, (.int .u8 0), by kernel_rfl, (fun E => (.lit .nil))⟩, by decide, by decide, rfl, by decide, rfl, ⟨(Go.Proofs.Tryz.prog.underlying 5).get (by kernel_rfl), (Option.some_get _).symm, by kernel_rfl⟩,
   (fun fs h => by cases h), (fun n el h => by cases h), (fun el h => by cases h), (fun k h => by cases h; kernel_rfl), (fun h => by cases h), (fun h => by cases h)⟩
theorem ly6 : TiOk Go.Proofs.Tryz.prog lay 6 y6 :=
  ⟨⟨(Go.Proofs.Tryz.prog.info? 6).get (by kernel_rfl), (Option.some_get _).symm, by kernel_rfl, by kernel_rfl, (.int .u8 0), by kernel_rfl, (fun E => (.lit .nil))⟩, by decide, by decide, rfl, by decide, rfl, ⟨(Go.Proofs.Tryz.prog.underlying 6).get (by kernel_rfl), (Option.some_get _).symm, by kernel_rfl⟩,
   (fun fs h => by cases h), (fun n el h => by cases h), (fun el h => by cases h), (fun k h => by cases h; kernel_rfl), (fun h => by cases h), (fun h => by cases h)⟩
theorem ly7 : TiOk Go.Proofs.Tryz.prog lay 7 y7 :=
  ⟨⟨(Go.Proofs.Tryz.prog.info? 7).get (by kernel_rfl), (Option.some_get _).symm, by kernel_rfl, by kernel_rfl, (.agg #[.int .i64 0, .int .i64 0, .bool false, .int .u8 0]), by kernel_rfl, (fun E => (rs_agg0 (.lit (.lit (.lit (.lit .nil)))) .nil))⟩, by decide, by decide, rfl, by decide, rfl, ⟨(Go.Proofs.Tryz.prog.underlying 7).get (by kernel_rfl), (Option.some_get _).symm, by kernel_rfl⟩,
   (fun fs h => by cases h; exact ⟨Go.Proofs.Tryz.prog.fieldsOf 7, by kernel_rfl, by kernel_rfl, fun j p hj => by simpa using str_of (fields := (Go.Proofs.Tryz.prog.fieldsOf 7).toList) (by kernel_rfl) (by decide) j p hj⟩), (fun n el h => by cases h), (fun el h => by cases h), (fun k h => by cases h), (fun h => by cases h), (fun h => by cases h)⟩
theorem ly8 : TiOk Go.Proofs.Tryz.prog lay 8 y8 :=
  ⟨⟨(Go.Proofs.Tryz.prog.info? 8).get (by kernel_rfl), (Option.some_get _).symm, by kernel_rfl, by kernel_rfl, (.agg #[.int .i64 0, .int .i64 0, .bool false, .int .u8 0]), by kernel_rfl, (fun E => (rs_agg0 (.lit (.lit (.lit (.lit .nil)))) .nil))⟩, by decide, by decide, rfl, by decide, rfl, ⟨(Go.Proofs.Tryz.prog.underlying 8).get (by kernel_rfl), (Option.some_get _).symm, by kernel_rfl⟩,
   (fun fs h => by cases h; exact ⟨Go.Proofs.Tryz.prog.fieldsOf 8, by kernel_rfl, by kernel_rfl, fun j p hj => by simpa using str_of (fields := (Go.Proofs.Tryz.prog.fieldsOf 8).toList) (by kernel_rfl) (by decide) j p hj⟩), (fun n el h => by cases h), (fun el h => by cases h), (fun k h => by cases h), (fun h => by cases h), (fun h => by cases h)⟩
theorem ly9 : TiOk Go.Proofs.Tryz.prog lay 9 y9 :=
  ⟨⟨(Go.Proofs.Tryz.prog.info? 9).get (by kernel_rfl), (Option.some_get _).symm, by kernel_rfl, by kernel_rfl, (.string ⟨#[]⟩), by kernel_rfl, (fun E => (.lit .nil))⟩, by decide, by decide, rfl, by decide, rfl, ⟨(Go.Proofs.Tryz.prog.underlying 9).get (by kernel_rfl), (Option.some_get _).symm, by kernel_rfl⟩,
   (fun fs h => by cases h), (fun n el h => by cases h), (fun el h => by cases h), (fun k h => by cases h), (fun h => by cases h), (fun h => by cases h)⟩
theorem ly10 : TiOk Go.Proofs.Tryz.prog lay 10 y10 :=
  ⟨⟨(Go.Proofs.Tryz.prog.info? 10).get (by kernel_rfl), (Option.some_get _).symm, by kernel_rfl, by kernel_rfl, (.string ⟨#[]⟩), by kernel_rfl, (fun E => (.lit .nil))⟩, by decide, by decide, rfl, by decide, rfl, ⟨(Go.Proofs.Tryz.prog.underlying 10).get (by kernel_rfl), (Option.some_get _).symm, by kernel_rfl⟩,
   (fun fs h => by cases h), (fun n el h => by cases h), (fun el h => by cases h), (fun k h => by cases h), (fun h => by cases h), (fun h => by cases h)⟩
theorem ly11 : TiOk Go.Proofs.Tryz.prog lay 11 y11 :=
  ⟨⟨(Go.Proofs.Tryz.prog.info? 11).get (by kernel_rfl), (Option.some_get _).symm, by kernel_rfl, by kernel_rfl, (.string ⟨#[]⟩), by kernel_rfl, (fun E => (.lit .nil))⟩, by decide, by decide, rfl, by decide, rfl, ⟨(Go.Proofs.Tryz.prog.underlying 11).get (by kernel_rfl), (Option.some_get _).symm, by kernel_rfl⟩,
   (fun fs h => by cases h), (fun n el h => by cases h), (fun el h => by cases h), (fun k h => by cases h), (fun h => by cases h), (fun h => by cases h)⟩
theorem ly12 : TiOk Go.Proofs.Tryz.prog lay 12 y12 :=
  ⟨⟨(Go.Proofs.Tryz.prog.info? 12).get (by kernel_rfl), (Option.some_get _).symm, by kernel_rfl, by kernel_rfl, (.int .u64 0), by kernel_rfl, (fun E => (.lit .nil))⟩, by decide, by decide, rfl, by decide, rfl, ⟨(Go.Proofs.Tryz.prog.underlying 12).get (by kernel_rfl), (Option.some_get _).symm, by kernel_rfl⟩,
   (fun fs h => by cases h), (fun n el h => by cases h), (fun el h => by cases h), (fun k h => by cases h; kernel_rfl), (fun h => by cases h), (fun h => by cases h)⟩
theorem ly13 : TiOk Go.Proofs.Tryz.prog lay 13 y13 :=
  ⟨⟨(Go.Proofs.Tryz.prog.info? 13).get (by kernel_rfl), (Option.some_get _).symm, by kernel_rfl, by kernel_rfl, (.agg #[.string ⟨#[]⟩, .int .u64 0]), by kernel_rfl, (fun E => (rs_agg0 (.lit (.lit .nil)) .nil))⟩, by decide, by decide, rfl, by decide, rfl, ⟨(Go.Proofs.Tryz.prog.underlying 13).get (by kernel_rfl), (Option.some_get _).symm, by kernel_rfl⟩,
   (fun fs h => by cases h; exact ⟨Go.Proofs.Tryz.prog.fieldsOf 13, by kernel_rfl, by kernel_rfl, fun j p hj => by simpa using str_of (fields := (Go.Proofs.Tryz.prog.fieldsOf 13).toList) (by kernel_rfl) (by decide) j p hj⟩), (fun n el h => by cases h), (fun el h => by cases h), (fun k h => by cases h), (fun h => by cases h), (fun h => by cases h)⟩
theorem ly22 : TiOk Go.Proofs.Tryz.prog lay 22 y22 :=
  ⟨⟨(Go.Proofs.Tryz.prog.info? 22).get (by kernel_rfl), (Option.some_get _).symm, by kernel_rfl, by kernel_rfl, (.slice none 0 0), by kernel_rfl, (fun E => (.own0 (by decide) .nil))⟩, by decide, by decide, rfl, by decide, rfl, ⟨(Go.Proofs.Tryz.prog.underlying 22).get (by kernel_rfl), (Option.some_get _).symm, by kernel_rfl⟩,
   (fun fs h => by cases h), (fun n el h => by cases h), (fun el h => by cases h; kernel_rfl), (fun k h => by cases h), (fun h => by cases h), (fun h => by cases h)⟩
theorem ly23 : TiOk Go.Proofs.Tryz.prog lay 23 y23 :=
  ⟨⟨(Go.Proofs.Tryz.prog.info? 23).get (by kernel_rfl), (Option.some_get _).symm, by kernel_rfl, by kernel_rfl, (.agg #[.slice none 0 0, .slice none 0 0, .slice none 0 0, .slice none 0 0]), by kernel_rfl, (fun E => (rs_agg0 (.own0 (by decide) (.own0 (by decide) (.own0 (by decide) (.own0 (by decide) .nil)))) .nil))⟩, by decide, by decide, rfl, by decide, rfl, ⟨(Go.Proofs.Tryz.prog.underlying 23).get (by kernel_rfl), (Option.some_get _).symm, by kernel_rfl⟩,
   (fun fs h => by cases h), (fun n el h => by cases h; kernel_rfl), (fun el h => by cases h), (fun k h => by cases h), (fun h => by cases h), (fun h => by cases h)⟩
theorem ly24 : TiOk Go.Proofs.Tryz.prog lay 24 y24 :=
  ⟨⟨(Go.Proofs.Tryz.prog.info? 24).get (by kernel_rfl), (Option.some_get _).symm, by kernel_rfl, by kernel_rfl, (.agg #[.int .i64 0, .int .i64 0, .int .i64 0, .int .i64 0]), by kernel_rfl, (fun E => (rs_agg0 (.lit (.lit (.lit (.lit .nil)))) .nil))⟩, by decide, by decide, rfl, by decide, rfl, ⟨(Go.Proofs.Tryz.prog.underlying 24).get (by kernel_rfl), (Option.some_get _).symm, by kernel_rfl⟩,
   (fun fs h => by cases h), (fun n el h => by cases h; kernel_rfl), (fun el h => by cases h), (fun k h => by cases h), (fun h => by cases h), (fun _ => plain_arr (k := .i64) (i := (Go.Proofs.Tryz.prog.info? 3).get (by kernel_rfl)) (by kernel_rfl) (by kernel_rfl) (Option.some_get _).symm (by kernel_rfl) (by kernel_rfl))⟩
theorem ly25 : TiOk Go.Proofs.Tryz.prog lay 25 y25 :=
  ⟨⟨(Go.Proofs.Tryz.prog.info? 25).get (by kernel_rfl), (Option.some_get _).symm, by kernel_rfl, by kernel_rfl, (.slice none 0 0), by kernel_rfl, (fun E => (.own0 (by decide) .nil))⟩, by decide, by decide, rfl, by decide, rfl, ⟨(Go.Proofs.Tryz.prog.underlying 25).get (by kernel_rfl), (Option.some_get _).symm, by kernel_rfl⟩,
   (fun fs h => by cases h), (fun n el h => by cases h), (fun el h => by cases h; kernel_rfl), (fun k h => by cases h), (fun h => by cases h), (fun h => by cases h)⟩
theorem ly26 : TiOk Go.Proofs.Tryz.prog lay 26 y26 :=
  ⟨⟨(Go.Proofs.Tryz.prog.info? 26).get (by kernel_rfl), (Option.some_get _).symm, by kernel_rfl, by kernel_rfl, (.slice none 0 0), by kernel_rfl, (fun E => (.own0 (by decide) .nil))⟩, by decide, by decide, rfl, by decide, rfl, ⟨(Go.Proofs.Tryz.prog.underlying 26).get (by kernel_rfl), (Option.some_get _).symm, by kernel_rfl⟩,
   (fun fs h => by cases h), (fun n el h => by cases h), (fun el h => by cases h; kernel_rfl), (fun k h => by cases h), (fun h => by cases h), (fun h => by cases h)⟩
theorem ly28 : TiOk Go.Proofs.Tryz.prog lay 28 y28 :=
  ⟨⟨(Go.Proofs.Tryz.prog.info? 28).get (by kernel_rfl), (Option.some_get _).symm, by kernel_rfl, by kernel_rfl, (.agg #[.slice none 0 0, .slice none 0 0, .slice none 0 0, .slice none 0 0, .int .i64 0, .int .i64 0, .int .i64 0, .int .i64 0, .int .i64 0, .slice none 0 0, .slice none 0 0]), by kernel_rfl, (fun E => (rs_agg0 (.own0 (by decide) (.own0 (by decide) (.own0 (by decide) (.own0 (by decide) (.lit (.lit (.lit (.lit (.lit (.own0 (by decide) (.own0 (by decide) .nil))))))))))) .nil))⟩, by decide, by decide, rfl, by decide, rfl, ⟨(Go.Proofs.Tryz.prog.underlying 28).get (by kernel_rfl), (Option.some_get _).symm, by kernel_rfl⟩,
   (fun fs h => by cases h; exact ⟨Go.Proofs.Tryz.prog.fieldsOf 28, by kernel_rfl, by kernel_rfl, fun j p hj => by simpa using str_of (fields := (Go.Proofs.Tryz.prog.fieldsOf 28).toList) (by kernel_rfl) (by decide) j p hj⟩), (fun n el h => by cases h), (fun el h => by cases h), (fun k h => by cases h), (fun h => by cases h), (fun h => by cases h)⟩
theorem ly30 : TiOk Go.Proofs.Tryz.prog lay 30 y30 :=
  ⟨⟨(Go.Proofs.Tryz.prog.info? 30).get (by kernel_rfl), (Option.some_get _).symm, by kernel_rfl, by kernel_rfl, (.int .i64 0), by kernel_rfl, (fun E => (.lit .nil))⟩, by decide, by decide, rfl, by decide, rfl, ⟨(Go.Proofs.Tryz.prog.underlying 30).get (by kernel_rfl), (Option.some_get _).symm, by kernel_rfl⟩,
   (fun fs h => by cases h), (fun n el h => by cases h), (fun el h => by cases h), (fun k h => by cases h; kernel_rfl), (fun h => by cases h), (fun h => by cases h)⟩
theorem ly45 : TiOk Go.Proofs.Tryz.prog lay 45 y45 :=
  ⟨⟨(Go.Proofs.Tryz.prog.info? 45).get (by kernel_rfl), (Option.some_get _).symm, by kernel_rfl, by kernel_rfl, (.int .u64 0), by kernel_rfl, (fun E => (.lit .nil))⟩, by decide, by decide, rfl, by decide, rfl, ⟨(Go.Proofs.Tryz.prog.underlying 45).get (by kernel_rfl), (Option.some_get _).symm, by kernel_rfl⟩,
   (fun fs h => by cases h), (fun n el h => by cases h), (fun el h => by cases h), (fun k h => by cases h; kernel_rfl), (fun h => by cases h), (fun h => by cases h)⟩
theorem ly46 : TiOk Go.Proofs.Tryz.prog lay 46 y46 :=
  ⟨⟨(Go.Proofs.Tryz.prog.info? 46).get (by kernel_rfl), (Option.some_get _).symm, by kernel_rfl, by kernel_rfl, (.slice none 0 0), by kernel_rfl, (fun E => (.own0 (by decide) .nil))⟩, by decide, by decide, rfl, by decide, rfl, ⟨(Go.Proofs.Tryz.prog.underlying 46).get (by kernel_rfl), (Option.some_get _).symm, by kernel_rfl⟩,
   (fun fs h => by cases h), (fun n el h => by cases h), (fun el h => by cases h; kernel_rfl), (fun k h => by cases h), (fun h => by cases h), (fun h => by cases h)⟩
theorem ly48 : TiOk Go.Proofs.Tryz.prog lay 48 y48 :=
  ⟨⟨(Go.Proofs.Tryz.prog.info? 48).get (by kernel_rfl), (Option.some_get _).symm, by kernel_rfl, by kernel_rfl, (.slice none 0 0), by kernel_rfl, (fun E => (.own0 (by decide) .nil))⟩, by decide, by decide, rfl, by decide, rfl, ⟨(Go.Proofs.Tryz.prog.underlying 48).get (by kernel_rfl), (Option.some_get _).symm, by kernel_rfl⟩,
   (fun fs h => by cases h), (fun n el h => by cases h), (fun el h => by cases h; kernel_rfl), (fun k h => by cases h), (fun h => by cases h), (fun h => by cases h)⟩
theorem ly49 : TiOk Go.Proofs.Tryz.prog lay 49 y49 :=
  ⟨⟨(Go.Proofs.Tryz.prog.info? 49).get (by kernel_rfl), (Option.some_get _).symm, by kernel_rfl, by kernel_rfl, (.slice none 0 0), by kernel_rfl, (fun E => (.own0 (by decide) .nil))⟩, by decide, by decide, rfl, by decide, rfl, ⟨(Go.Proofs.Tryz.prog.underlying 49).get (by kernel_rfl), (Option.some_get _).symm, by kernel_rfl⟩,
   (fun fs h => by cases h), (fun n el h => by cases h), (fun el h => by cases h; kernel_rfl), (fun k h => by cases h), (fun h => by cases h), (fun h => by cases h)⟩
theorem ly50 : TiOk Go.Proofs.Tryz.prog lay 50 y50 :=
  ⟨⟨(Go.Proofs.Tryz.prog.info? 50).get (by kernel_rfl), (Option.some_get _).symm, by kernel_rfl, by kernel_rfl, (.slice none 0 0), by kernel_rfl, (fun E => (.own0 (by decide) .nil))⟩, by decide, by decide, rfl, by decide, rfl, ⟨(Go.Proofs.Tryz.prog.underlying 50).get (by kernel_rfl), (Option.some_get _).symm, by kernel_rfl⟩,
   (fun fs h => by cases h), (fun n el h => by cases h), (fun el h => by cases h; kernel_rfl), (fun k h => by cases h), (fun h => by cases h), (fun h => by cases h)⟩
theorem ly52 : TiOk Go.Proofs.Tryz.prog lay 52 y52 :=
  ⟨⟨(Go.Proofs.Tryz.prog.info? 52).get (by kernel_rfl), (Option.some_get _).symm, by kernel_rfl, by kernel_rfl, (.agg #[.int .i64 0, .int .i64 0, .int .i64 0, .slice none 0 0, .int .i64 0, .int .i64 0, .int .i64 0, .int .i64 0, .int .i64 0, .int .i64 0, .slice none 0 0, .slice none 0 0, .int .i64 0, .int .i64 0, .int .i64 0, .int .i64 0, .int .i64 0]), by kernel_rfl, (fun E => (rs_agg0 (.lit (.lit (.lit (.own0 (by decide) (.lit (.lit (.lit (.lit (.lit (.lit (.own0 (by decide) (.own0 (by decide) (.lit (.lit (.lit (.lit (.lit .nil))))))))))))))))) .nil))⟩, by decide, by decide, rfl, by decide, rfl, ⟨(Go.Proofs.Tryz.prog.underlying 52).get (by kernel_rfl), (Option.some_get _).symm, by kernel_rfl⟩,
   (fun fs h => by cases h; exact ⟨Go.Proofs.Tryz.prog.fieldsOf 52, by kernel_rfl, by kernel_rfl, fun j p hj => by simpa using str_of (fields := (Go.Proofs.Tryz.prog.fieldsOf 52).toList) (by kernel_rfl) (by decide) j p hj⟩), (fun n el h => by cases h), (fun el h => by cases h), (fun k h => by cases h), (fun h => by cases h), (fun h => by cases h)⟩
theorem ly55 : TiOk Go.Proofs.Tryz.prog lay 55 y55 :=
  ⟨⟨(Go.Proofs.Tryz.prog.info? 55).get (by kernel_rfl), (Option.some_get _).symm, by kernel_rfl, by kernel_rfl, (.agg #[.int .i64 0, .int .i64 0, .int .i64 0, .int .i64 0]), by kernel_rfl, (fun E => (rs_agg0 (.lit (.lit (.lit (.lit .nil)))) .nil))⟩, by decide, by decide, rfl, by decide, rfl, ⟨(Go.Proofs.Tryz.prog.underlying 55).get (by kernel_rfl), (Option.some_get _).symm, by kernel_rfl⟩,
   (fun fs h => by cases h; exact ⟨Go.Proofs.Tryz.prog.fieldsOf 55, by kernel_rfl, by kernel_rfl, fun j p hj => by simpa using str_of (fields := (Go.Proofs.Tryz.prog.fieldsOf 55).toList) (by kernel_rfl) (by decide) j p hj⟩), (fun n el h => by cases h), (fun el h => by cases h), (fun k h => by cases h), (fun h => by cases h), (fun _ => plain_struct (by kernel_rfl) (by kernel_rfl) (by kernel_rfl) (by kernel_rfl) (by kernel_rfl))⟩
theorem ly63 : TiOk Go.Proofs.Tryz.prog lay 63 y63 :=
  ⟨⟨(Go.Proofs.Tryz.prog.info? 63).get (by kernel_rfl), (Option.some_get _).symm, by kernel_rfl, by kernel_rfl, (.agg #[.int .i64 0, .int .i64 0, .int .i64 0]), by kernel_rfl, (fun E => (rs_agg0 (.lit (.lit (.lit .nil))) .nil))⟩, by decide, by decide, rfl, by decide, rfl, ⟨(Go.Proofs.Tryz.prog.underlying 63).get (by kernel_rfl), (Option.some_get _).symm, by kernel_rfl⟩,
   (fun fs h => by cases h; exact ⟨Go.Proofs.Tryz.prog.fieldsOf 63, by kernel_rfl, by kernel_rfl, fun j p hj => by simpa using str_of (fields := (Go.Proofs.Tryz.prog.fieldsOf 63).toList) (by kernel_rfl) (by decide) j p hj⟩), (fun n el h => by cases h), (fun el h => by cases h), (fun k h => by cases h), (fun h => by cases h), (fun _ => plain_struct (by kernel_rfl) (by kernel_rfl) (by kernel_rfl) (by kernel_rfl) (by kernel_rfl))⟩
theorem ly65 : TiOk Go.Proofs.Tryz.prog lay 65 y65 :=
  ⟨⟨(Go.Proofs.Tryz.prog.info? 65).get (by kernel_rfl), (Option.some_get _).symm, by kernel_rfl, by kernel_rfl, (.agg #[.int .i64 0, .int .i64 0, .int .i64 0]), by kernel_rfl, (fun E => (rs_agg0 (.lit (.lit (.lit .nil))) .nil))⟩, by decide, by decide, rfl, by decide, rfl, ⟨(Go.Proofs.Tryz.prog.underlying 65).get (by kernel_rfl), (Option.some_get _).symm, by kernel_rfl⟩,
   (fun fs h => by cases h; exact ⟨Go.Proofs.Tryz.prog.fieldsOf 65, by kernel_rfl, by kernel_rfl, fun j p hj => by simpa using str_of (fields := (Go.Proofs.Tryz.prog.fieldsOf 65).toList) (by kernel_rfl) (by decide) j p hj⟩), (fun n el h => by cases h), (fun el h => by cases h), (fun k h => by cases h), (fun h => by cases h), (fun _ => plain_struct (by kernel_rfl) (by kernel_rfl) (by kernel_rfl) (by kernel_rfl) (by kernel_rfl))⟩
theorem ly69 : TiOk Go.Proofs.Tryz.prog lay 69 y69 :=
  ⟨⟨(Go.Proofs.Tryz.prog.info? 69).get (by kernel_rfl), (Option.some_get _).symm, by kernel_rfl, by kernel_rfl, (.agg #[.int .i64 0, .int .i64 0, .int .i64 0, .int .i64 0]), by kernel_rfl, (fun E => (rs_agg0 (.lit (.lit (.lit (.lit .nil)))) .nil))⟩, by decide, by decide, rfl, by decide, rfl, ⟨(Go.Proofs.Tryz.prog.underlying 69).get (by kernel_rfl), (Option.some_get _).symm, by kernel_rfl⟩,
   (fun fs h => by cases h; exact ⟨Go.Proofs.Tryz.prog.fieldsOf 69, by kernel_rfl, by kernel_rfl, fun j p hj => by simpa using str_of (fields := (Go.Proofs.Tryz.prog.fieldsOf 69).toList) (by kernel_rfl) (by decide) j p hj⟩), (fun n el h => by cases h), (fun el h => by cases h), (fun k h => by cases h), (fun h => by cases h), (fun _ => plain_struct (by kernel_rfl) (by kernel_rfl) (by kernel_rfl) (by kernel_rfl) (by kernel_rfl))⟩
theorem ly74 : TiOk Go.Proofs.Tryz.prog lay 74 y74 :=
  ⟨⟨(Go.Proofs.Tryz.prog.info? 74).get (by kernel_rfl), (Option.some_get _).symm, by kernel_rfl, by kernel_rfl, (.pointer none), by kernel_rfl, (fun E => (.lit .nil))⟩, by decide, by decide, rfl, by decide, rfl, ⟨(Go.Proofs.Tryz.prog.underlying 74).get (by kernel_rfl), (Option.some_get _).symm, by kernel_rfl⟩,
   (fun fs h => by cases h), (fun n el h => by cases h), (fun el h => by cases h), (fun k h => by cases h), (fun h => by cases h), (fun h => by cases h)⟩
theorem ly75 : TiOk Go.Proofs.Tryz.prog lay 75 y75 :=
  ⟨⟨(Go.Proofs.Tryz.prog.info? 75).get (by kernel_rfl), (Option.some_get _).symm, by kernel_rfl, by kernel_rfl, (.pointer none), by kernel_rfl, (fun E => (.lit .nil))⟩, by decide, by decide, rfl, by decide, rfl, ⟨(Go.Proofs.Tryz.prog.underlying 75).get (by kernel_rfl), (Option.some_get _).symm, by kernel_rfl⟩,
   (fun fs h => by cases h), (fun n el h => by cases h), (fun el h => by cases h), (fun k h => by cases h), (fun h => by cases h), (fun h => by cases h)⟩
theorem ly98 : TiOk Go.Proofs.Tryz.prog lay 98 y98 :=
  ⟨⟨(Go.Proofs.Tryz.prog.info? 98).get (by kernel_rfl), (Option.some_get _).symm, by kernel_rfl, by kernel_rfl, (.agg #[.slice none 0 0, .slice none 0 0, .slice none 0 0, .slice none 0 0]), by kernel_rfl, (fun E => (rs_agg0 (.own0 (by decide) (.own0 (by decide) (.own0 (by decide) (.own0 (by decide) .nil)))) .nil))⟩, by decide, by decide, rfl, by decide, rfl, ⟨(Go.Proofs.Tryz.prog.underlying 98).get (by kernel_rfl), (Option.some_get _).symm, by kernel_rfl⟩,
   (fun fs h => by cases h), (fun n el h => by cases h; kernel_rfl), (fun el h => by cases h), (fun k h => by cases h), (fun h => by cases h), (fun h => by cases h)⟩
theorem ly100 : TiOk Go.Proofs.Tryz.prog lay 100 y100 :=
  ⟨⟨(Go.Proofs.Tryz.prog.info? 100).get (by kernel_rfl), (Option.some_get _).symm, by kernel_rfl, by kernel_rfl, (.agg #[.int .i64 0, .int .i64 0, .int .i64 0, .slice none 0 0]), by kernel_rfl, (fun E => (rs_agg0 (.lit (.lit (.lit (.own0 (by decide) .nil)))) .nil))⟩, by decide, by decide, rfl, by decide, rfl, ⟨(Go.Proofs.Tryz.prog.underlying 100).get (by kernel_rfl), (Option.some_get _).symm, by kernel_rfl⟩,
   (fun fs h => by cases h; exact ⟨Go.Proofs.Tryz.prog.fieldsOf 100, by kernel_rfl, by kernel_rfl, fun j p hj => by simpa using str_of (fields := (Go.Proofs.Tryz.prog.fieldsOf 100).toList) (by kernel_rfl) (by decide) j p hj⟩), (fun n el h => by cases h), (fun el h => by cases h), (fun k h => by cases h), (fun h => by cases h), (fun h => by cases h)⟩
theorem ly101 : TiOk Go.Proofs.Tryz.prog lay 101 y101 :=
  ⟨⟨(Go.Proofs.Tryz.prog.info? 101).get (by kernel_rfl), (Option.some_get _).symm, by kernel_rfl, by kernel_rfl, (.slice none 0 0), by kernel_rfl, (fun E => (.own0 (by decide) .nil))⟩, by decide, by decide, rfl, by decide, rfl, ⟨(Go.Proofs.Tryz.prog.underlying 101).get (by kernel_rfl), (Option.some_get _).symm, by kernel_rfl⟩,
   (fun fs h => by cases h), (fun n el h => by cases h), (fun el h => by cases h; kernel_rfl), (fun k h => by cases h), (fun h => by cases h), (fun h => by cases h)⟩
theorem ly102 : TiOk Go.Proofs.Tryz.prog lay 102 y102 :=
  ⟨⟨(Go.Proofs.Tryz.prog.info? 102).get (by kernel_rfl), (Option.some_get _).symm, by kernel_rfl, by kernel_rfl, (.slice none 0 0), by kernel_rfl, (fun E => (.own0 (by decide) .nil))⟩, by decide, by decide, rfl, by decide, rfl, ⟨(Go.Proofs.Tryz.prog.underlying 102).get (by kernel_rfl), (Option.some_get _).symm, by kernel_rfl⟩,
   (fun fs h => by cases h), (fun n el h => by cases h), (fun el h => by cases h; kernel_rfl), (fun k h => by cases h), (fun h => by cases h), (fun h => by cases h)⟩
theorem ly104 : TiOk Go.Proofs.Tryz.prog lay 104 y104 :=
  ⟨⟨(Go.Proofs.Tryz.prog.info? 104).get (by kernel_rfl), (Option.some_get _).symm, by kernel_rfl, by kernel_rfl, (.agg #[.slice none 0 0, .slice none 0 0, .slice none 0 0, .slice none 0 0, .int .i64 0, .slice none 0 0, .slice none 0 0]), by kernel_rfl, (fun E => (rs_agg0 (.own0 (by decide) (.own0 (by decide) (.own0 (by decide) (.own0 (by decide) (.lit (.own0 (by decide) (.own0 (by decide) .nil))))))) .nil))⟩, by decide, by decide, rfl, by decide, rfl, ⟨(Go.Proofs.Tryz.prog.underlying 104).get (by kernel_rfl), (Option.some_get _).symm, by kernel_rfl⟩,
   (fun fs h => by cases h; exact ⟨Go.Proofs.Tryz.prog.fieldsOf 104, by kernel_rfl, by kernel_rfl, fun j p hj => by simpa using str_of (fields := (Go.Proofs.Tryz.prog.fieldsOf 104).toList) (by kernel_rfl) (by decide) j p hj⟩), (fun n el h => by cases h), (fun el h => by cases h), (fun k h => by cases h), (fun h => by cases h), (fun h => by cases h)⟩
theorem ly113 : TiOk Go.Proofs.Tryz.prog lay 113 y113 :=
  ⟨⟨(Go.Proofs.Tryz.prog.info? 113).get (by kernel_rfl), (Option.some_get _).symm, by kernel_rfl, by kernel_rfl, (.agg #[.int .i64 0, .int .i64 0, .int .i64 0]), by kernel_rfl, (fun E => (rs_agg0 (.lit (.lit (.lit .nil))) .nil))⟩, by decide, by decide, rfl, by decide, rfl, ⟨(Go.Proofs.Tryz.prog.underlying 113).get (by kernel_rfl), (Option.some_get _).symm, by kernel_rfl⟩,
   (fun fs h => by cases h; exact ⟨Go.Proofs.Tryz.prog.fieldsOf 113, by kernel_rfl, by kernel_rfl, fun j p hj => by simpa using str_of (fields := (Go.Proofs.Tryz.prog.fieldsOf 113).toList) (by kernel_rfl) (by decide) j p hj⟩), (fun n el h => by cases h), (fun el h => by cases h), (fun k h => by cases h), (fun h => by cases h), (fun _ => plain_struct (by kernel_rfl) (by kernel_rfl) (by kernel_rfl) (by kernel_rfl) (by kernel_rfl))⟩
theorem ly114 : TiOk Go.Proofs.Tryz.prog lay 114 y114 :=
  ⟨⟨(Go.Proofs.Tryz.prog.info? 114).get (by kernel_rfl), (Option.some_get _).symm, by kernel_rfl, by kernel_rfl, (.nilFunc), by kernel_rfl, (fun E => (.lit .nil))⟩, by decide, by decide, rfl, by decide, rfl, ⟨(Go.Proofs.Tryz.prog.underlying 114).get (by kernel_rfl), (Option.some_get _).symm, by kernel_rfl⟩,
   (fun fs h => by cases h), (fun n el h => by cases h), (fun el h => by cases h), (fun k h => by cases h), (fun h => by cases h), (fun h => by cases h)⟩
theorem ly134 : TiOk Go.Proofs.Tryz.prog lay 134 y134 :=
  ⟨⟨(Go.Proofs.Tryz.prog.info? 134).get (by kernel_rfl), (Option.some_get _).symm, by kernel_rfl, by kernel_rfl, (.pointer none), by kernel_rfl, (fun E => (.lit .nil))⟩, by decide, by decide, rfl, by decide, rfl, ⟨(Go.Proofs.Tryz.prog.underlying 134).get (by kernel_rfl), (Option.some_get _).symm, by kernel_rfl⟩,
   (fun fs h => by cases h), (fun n el h => by cases h), (fun el h => by cases h), (fun k h => by cases h), (fun h => by cases h), (fun h => by cases h)⟩
theorem ly136 : TiOk Go.Proofs.Tryz.prog lay 136 y136 :=
  ⟨⟨(Go.Proofs.Tryz.prog.info? 136).get (by kernel_rfl), (Option.some_get _).symm, by kernel_rfl, by kernel_rfl, (.nilFunc), by kernel_rfl, (fun E => (.lit .nil))⟩, by decide, by decide, rfl, by decide, rfl, ⟨(Go.Proofs.Tryz.prog.underlying 136).get (by kernel_rfl), (Option.some_get _).symm, by kernel_rfl⟩,
   (fun fs h => by cases h), (fun n el h => by cases h), (fun el h => by cases h), (fun k h => by cases h), (fun h => by cases h), (fun h => by cases h)⟩
theorem ly138 : TiOk Go.Proofs.Tryz.prog lay 138 y138 :=
  ⟨⟨(Go.Proofs.Tryz.prog.info? 138).get (by kernel_rfl), (Option.some_get _).symm, by kernel_rfl, by kernel_rfl, (.nilFunc), by kernel_rfl, (fun E => (.lit .nil))⟩, by decide, by decide, rfl, by decide, rfl, ⟨(Go.Proofs.Tryz.prog.underlying 138).get (by kernel_rfl), (Option.some_get _).symm, by kernel_rfl⟩,
   (fun fs h => by cases h), (fun n el h => by cases h), (fun el h => by cases h), (fun k h => by cases h), (fun h => by cases h), (fun h => by cases h)⟩
theorem ly139 : TiOk Go.Proofs.Tryz.prog lay 139 y139 :=
  ⟨⟨(Go.Proofs.Tryz.prog.info? 139).get (by kernel_rfl), (Option.some_get _).symm, by kernel_rfl, by kernel_rfl, (.pointer none), by kernel_rfl, (fun E => (.lit .nil))⟩, by decide, by decide, rfl, by decide, rfl, ⟨(Go.Proofs.Tryz.prog.underlying 139).get (by kernel_rfl), (Option.some_get _).symm, by kernel_rfl⟩,
   (fun fs h => by cases h), (fun n el h => by cases h), (fun el h => by cases h), (fun k h => by cases h), (fun h => by cases h), (fun h => by cases h)⟩
theorem ly141 : TiOk Go.Proofs.Tryz.prog lay 141 y141 :=
  ⟨⟨(Go.Proofs.Tryz.prog.info? 141).get (by kernel_rfl), (Option.some_get _).symm, by kernel_rfl, by kernel_rfl, (.agg #[.pointer none]), by kernel_rfl, (fun E => (rs_agg0 (.lit .nil) .nil))⟩, by decide, by decide, rfl, by decide, rfl, ⟨(Go.Proofs.Tryz.prog.underlying 141).get (by kernel_rfl), (Option.some_get _).symm, by kernel_rfl⟩,
   (fun fs h => by cases h; exact ⟨Go.Proofs.Tryz.prog.fieldsOf 141, by kernel_rfl, by kernel_rfl, fun j p hj => by simpa using str_of (fields := (Go.Proofs.Tryz.prog.fieldsOf 141).toList) (by kernel_rfl) (by decide) j p hj⟩), (fun n el h => by cases h), (fun el h => by cases h), (fun k h => by cases h), (fun h => by cases h), (fun h => by cases h)⟩
theorem ly161 : TiOk Go.Proofs.Tryz.prog lay 161 y161 :=
  ⟨⟨(Go.Proofs.Tryz.prog.info? 161).get (by kernel_rfl), (Option.some_get _).symm, by kernel_rfl, by kernel_rfl, (.nilFunc), by kernel_rfl, (fun E => (.lit .nil))⟩, by decide, by decide, rfl, by decide, rfl, ⟨(Go.Proofs.Tryz.prog.underlying 161).get (by kernel_rfl), (Option.some_get _).symm, by kernel_rfl⟩,
   (fun fs h => by cases h), (fun n el h => by cases h), (fun el h => by cases h), (fun k h => by cases h), (fun h => by cases h), (fun h => by cases h)⟩
theorem ly163 : TiOk Go.Proofs.Tryz.prog lay 163 y163 :=
  ⟨⟨(Go.Proofs.Tryz.prog.info? 163).get (by kernel_rfl), (Option.some_get _).symm, by kernel_rfl, by kernel_rfl, (.nilFunc), by kernel_rfl, (fun E => (.lit .nil))⟩, by decide, by decide, rfl, by decide, rfl, ⟨(Go.Proofs.Tryz.prog.underlying 163).get (by kernel_rfl), (Option.some_get _).symm, by kernel_rfl⟩,
   (fun fs h => by cases h), (fun n el h => by cases h), (fun el h => by cases h), (fun k h => by cases h), (fun h => by cases h), (fun h => by cases h)⟩
theorem ly165 : TiOk Go.Proofs.Tryz.prog lay 165 y165 :=
  ⟨⟨(Go.Proofs.Tryz.prog.info? 165).get (by kernel_rfl), (Option.some_get _).symm, by kernel_rfl, by kernel_rfl, (.nilFunc), by kernel_rfl, (fun E => (.lit .nil))⟩, by decide, by decide, rfl, by decide, rfl, ⟨(Go.Proofs.Tryz.prog.underlying 165).get (by kernel_rfl), (Option.some_get _).symm, by kernel_rfl⟩,
   (fun fs h => by cases h), (fun n el h => by cases h), (fun el h => by cases h), (fun k h => by cases h), (fun h => by cases h), (fun h => by cases h)⟩
theorem ly195 : TiOk Go.Proofs.Tryz.prog lay 195 y195 :=
  ⟨⟨(Go.Proofs.Tryz.prog.info? 195).get (by kernel_rfl), (Option.some_get _).symm, by kernel_rfl, by kernel_rfl, (.agg #[.int .i64 0, .int .i64 0]), by kernel_rfl, (fun E => (rs_agg0 (.lit (.lit .nil)) .nil))⟩, by decide, by decide, rfl, by decide, rfl, ⟨(Go.Proofs.Tryz.prog.underlying 195).get (by kernel_rfl), (Option.some_get _).symm, by kernel_rfl⟩,
   (fun fs h => by cases h; exact ⟨Go.Proofs.Tryz.prog.fieldsOf 195, by kernel_rfl, by kernel_rfl, fun j p hj => by simpa using str_of (fields := (Go.Proofs.Tryz.prog.fieldsOf 195).toList) (by kernel_rfl) (by decide) j p hj⟩), (fun n el h => by cases h), (fun el h => by cases h), (fun k h => by cases h), (fun h => by cases h), (fun _ => plain_struct (by kernel_rfl) (by kernel_rfl) (by kernel_rfl) (by kernel_rfl) (by kernel_rfl))⟩
theorem layOk : LayOk Go.Proofs.Tryz.prog lay := by
  have this : ∀ p ∈ layL, TiOk Go.Proofs.Tryz.prog lay p.1 p.2 := by
    simp only [layL, List.forall_mem_cons]
    exact ⟨ly1, ly2, ly3, ly4, ly5, ly6, ly7, ly8, ly9, ly10, ly11, ly12, ly13, ly22, ly23, ly24, ly25, ly26, ly28, ly30, ly45, ly46, ly48, ly49, ly50, ly52, ly55, ly63, ly65, ly69, ly74, ly75, ly98, ly100, ly101, ly102, ly104, ly113, ly114, ly134, ly136, ly138, ly139, ly141, ly161, ly163, ly165, ly195, fun p hp => by cases hp⟩
  exact fun t ti h => this (t, ti) (lk_mem h)
end Ve

/- Each function of the tables is the program's. -/
namespace Ve
open Go
set_option maxRecDepth 100000
theorem t3 : FnIs Go.Proofs.Tryz.prog lay 3 g3 := ⟨⟨Go.Proofs.Tryz.f3, Go.Proofs.Tryz.f3.body.getD .skip, Go.Proofs.Tryz.func3, by kernel_rfl, by kernel_rfl, by kernel_rfl, by kernel_rfl, by kernel_rfl⟩⟩
theorem t4 : FnIs Go.Proofs.Tryz.prog lay 4 g4 := ⟨⟨Go.Proofs.Tryz.f4, Go.Proofs.Tryz.f4.body.getD .skip, Go.Proofs.Tryz.func4, by kernel_rfl, by kernel_rfl, by kernel_rfl, by kernel_rfl, by kernel_rfl⟩⟩
theorem t5 : FnIs Go.Proofs.Tryz.prog lay 5 g5 := ⟨⟨Go.Proofs.Tryz.f5, Go.Proofs.Tryz.f5.body.getD .skip, Go.Proofs.Tryz.func5, by kernel_rfl, by kernel_rfl, by kernel_rfl, by kernel_rfl, by kernel_rfl⟩⟩
theorem t6 : FnIs Go.Proofs.Tryz.prog lay 6 g6 := ⟨⟨Go.Proofs.Tryz.f6, Go.Proofs.Tryz.f6.body.getD .skip, Go.Proofs.Tryz.func6, by kernel_rfl, by kernel_rfl, by kernel_rfl, by kernel_rfl, by kernel_rfl⟩⟩
theorem t7 : FnIs Go.Proofs.Tryz.prog lay 7 g7 := ⟨⟨Go.Proofs.Tryz.f7, Go.Proofs.Tryz.f7.body.getD .skip, Go.Proofs.Tryz.func7, by kernel_rfl, by kernel_rfl, by kernel_rfl, by kernel_rfl, by kernel_rfl⟩⟩
theorem t8 : FnIs Go.Proofs.Tryz.prog lay 8 g8 := ⟨⟨Go.Proofs.Tryz.f8, Go.Proofs.Tryz.f8.body.getD .skip, Go.Proofs.Tryz.func8, by kernel_rfl, by kernel_rfl, by kernel_rfl, by kernel_rfl, by kernel_rfl⟩⟩
theorem t9 : FnIs Go.Proofs.Tryz.prog lay 9 g9 := ⟨⟨Go.Proofs.Tryz.f9, Go.Proofs.Tryz.f9.body.getD .skip, Go.Proofs.Tryz.func9, by kernel_rfl, by kernel_rfl, by kernel_rfl, by kernel_rfl, by kernel_rfl⟩⟩
theorem t10 : FnIs Go.Proofs.Tryz.prog lay 10 g10 := ⟨⟨Go.Proofs.Tryz.f10, Go.Proofs.Tryz.f10.body.getD .skip, Go.Proofs.Tryz.func10, by kernel_rfl, by kernel_rfl, by kernel_rfl, by kernel_rfl, by kernel_rfl⟩⟩
theorem t11 : FnIs Go.Proofs.Tryz.prog lay 11 g11 := ⟨⟨Go.Proofs.Tryz.f11, Go.Proofs.Tryz.f11.body.getD .skip, Go.Proofs.Tryz.func11, by kernel_rfl, by kernel_rfl, by kernel_rfl, by kernel_rfl, by kernel_rfl⟩⟩
theorem t12 : FnIs Go.Proofs.Tryz.prog lay 12 g12 := ⟨⟨Go.Proofs.Tryz.f12, Go.Proofs.Tryz.f12.body.getD .skip, Go.Proofs.Tryz.func12, by kernel_rfl, by kernel_rfl, by kernel_rfl, by kernel_rfl, by kernel_rfl⟩⟩
theorem t13 : FnIs Go.Proofs.Tryz.prog lay 13 g13 := ⟨⟨Go.Proofs.Tryz.f13, Go.Proofs.Tryz.f13.body.getD .skip, Go.Proofs.Tryz.func13, by kernel_rfl, by kernel_rfl, by kernel_rfl, by kernel_rfl, by kernel_rfl⟩⟩
theorem t14 : FnIs Go.Proofs.Tryz.prog lay 14 g14 := ⟨⟨Go.Proofs.Tryz.f14, Go.Proofs.Tryz.f14.body.getD .skip, Go.Proofs.Tryz.func14, by kernel_rfl, by kernel_rfl, by kernel_rfl, by kernel_rfl, by kernel_rfl⟩⟩
theorem t15 : FnIs Go.Proofs.Tryz.prog lay 15 g15 := ⟨⟨Go.Proofs.Tryz.f15, Go.Proofs.Tryz.f15.body.getD .skip, Go.Proofs.Tryz.func15, by kernel_rfl, by kernel_rfl, by kernel_rfl, by kernel_rfl, by kernel_rfl⟩⟩
theorem t16 : FnIs Go.Proofs.Tryz.prog lay 16 g16 := ⟨⟨Go.Proofs.Tryz.f16, Go.Proofs.Tryz.f16.body.getD .skip, Go.Proofs.Tryz.func16, by kernel_rfl, by kernel_rfl, by kernel_rfl, by kernel_rfl, by kernel_rfl⟩⟩
theorem t17 : FnIs Go.Proofs.Tryz.prog lay 17 g17 := ⟨⟨Go.Proofs.Tryz.f17, Go.Proofs.Tryz.f17.body.getD .skip, Go.Proofs.Tryz.func17, by kernel_rfl, by kernel_rfl, by kernel_rfl, by kernel_rfl, by kernel_rfl⟩⟩
theorem t18 : FnIs Go.Proofs.Tryz.prog lay 18 g18 := ⟨⟨Go.Proofs.Tryz.f18, Go.Proofs.Tryz.f18.body.getD .skip, Go.Proofs.Tryz.func18, by kernel_rfl, by kernel_rfl, by kernel_rfl, by kernel_rfl, by kernel_rfl⟩⟩
theorem t19 : FnIs Go.Proofs.Tryz.prog lay 19 g19 := ⟨⟨Go.Proofs.Tryz.f19, Go.Proofs.Tryz.f19.body.getD .skip, Go.Proofs.Tryz.func19, by kernel_rfl, by kernel_rfl, by kernel_rfl, by kernel_rfl, by kernel_rfl⟩⟩
theorem t20 : FnIs Go.Proofs.Tryz.prog lay 20 g20 := ⟨⟨Go.Proofs.Tryz.f20, Go.Proofs.Tryz.f20.body.getD .skip, Go.Proofs.Tryz.func20, by kernel_rfl, by kernel_rfl, by kernel_rfl, by kernel_rfl, by kernel_rfl⟩⟩
theorem t21 : FnIs Go.Proofs.Tryz.prog lay 21 g21 := ⟨⟨Go.Proofs.Tryz.f21, Go.Proofs.Tryz.f21.body.getD .skip, Go.Proofs.Tryz.func21, by kernel_rfl, by kernel_rfl, by kernel_rfl, by kernel_rfl, by kernel_rfl⟩⟩
theorem t22 : FnIs Go.Proofs.Tryz.prog lay 22 g22 := ⟨⟨Go.Proofs.Tryz.f22, Go.Proofs.Tryz.f22.body.getD .skip, Go.Proofs.Tryz.func22, by kernel_rfl, by kernel_rfl, by kernel_rfl, by kernel_rfl, by kernel_rfl⟩⟩
theorem t23 : FnIs Go.Proofs.Tryz.prog lay 23 g23 := ⟨⟨Go.Proofs.Tryz.f23, Go.Proofs.Tryz.f23.body.getD .skip, Go.Proofs.Tryz.func23, by kernel_rfl, by kernel_rfl, by kernel_rfl, by kernel_rfl, by kernel_rfl⟩⟩
theorem t24 : FnIs Go.Proofs.Tryz.prog lay 24 g24 := ⟨⟨Go.Proofs.Tryz.f24, Go.Proofs.Tryz.f24.body.getD .skip, Go.Proofs.Tryz.func24, by kernel_rfl, by kernel_rfl, by kernel_rfl, by kernel_rfl, by kernel_rfl⟩⟩
theorem t25 : FnIs Go.Proofs.Tryz.prog lay 25 g25 := ⟨⟨Go.Proofs.Tryz.f25, Go.Proofs.Tryz.f25.body.getD .skip, Go.Proofs.Tryz.func25, by kernel_rfl, by kernel_rfl, by kernel_rfl, by kernel_rfl, by kernel_rfl⟩⟩
theorem t26 : FnIs Go.Proofs.Tryz.prog lay 26 g26 := ⟨⟨Go.Proofs.Tryz.f26, Go.Proofs.Tryz.f26.body.getD .skip, Go.Proofs.Tryz.func26, by kernel_rfl, by kernel_rfl, by kernel_rfl, by kernel_rfl, by kernel_rfl⟩⟩
theorem t27 : FnIs Go.Proofs.Tryz.prog lay 27 g27 := ⟨⟨Go.Proofs.Tryz.f27, Go.Proofs.Tryz.f27.body.getD .skip, Go.Proofs.Tryz.func27, by kernel_rfl, by kernel_rfl, by kernel_rfl, by kernel_rfl, by kernel_rfl⟩⟩
theorem t28 : FnIs Go.Proofs.Tryz.prog lay 28 g28 := ⟨⟨Go.Proofs.Tryz.f28, Go.Proofs.Tryz.f28.body.getD .skip, Go.Proofs.Tryz.func28, by kernel_rfl, by kernel_rfl, by kernel_rfl, by kernel_rfl, by kernel_rfl⟩⟩
theorem t29 : FnIs Go.Proofs.Tryz.prog lay 29 g29 := ⟨⟨Go.Proofs.Tryz.f29, Go.Proofs.Tryz.f29.body.getD .skip, Go.Proofs.Tryz.func29, by kernel_rfl, by kernel_rfl, by kernel_rfl, by kernel_rfl, by kernel_rfl⟩⟩
theorem t30 : FnIs Go.Proofs.Tryz.prog lay 30 g30 := ⟨⟨Go.Proofs.Tryz.f30, Go.Proofs.Tryz.f30.body.getD .skip, Go.Proofs.Tryz.func30, by kernel_rfl, by kernel_rfl, by kernel_rfl, by kernel_rfl, by kernel_rfl⟩⟩
theorem t31 : FnIs Go.Proofs.Tryz.prog lay 31 g31 := ⟨⟨Go.Proofs.Tryz.f31, Go.Proofs.Tryz.f31.body.getD .skip, Go.Proofs.Tryz.func31, by kernel_rfl, by kernel_rfl, by kernel_rfl, by kernel_rfl, by kernel_rfl⟩⟩
theorem t32 : FnIs Go.Proofs.Tryz.prog lay 32 g32 := ⟨⟨Go.Proofs.Tryz.f32, Go.Proofs.Tryz.f32.body.getD .skip, Go.Proofs.Tryz.func32, by kernel_rfl, by kernel_rfl, by kernel_rfl, by kernel_rfl, by kernel_rfl⟩⟩
theorem t33 : FnIs Go.Proofs.Tryz.prog lay 33 g33 := ⟨⟨Go.Proofs.Tryz.f33, Go.Proofs.Tryz.f33.body.getD .skip, Go.Proofs.Tryz.func33, by kernel_rfl, by kernel_rfl, by kernel_rfl, by kernel_rfl, by kernel_rfl⟩⟩
theorem t34 : FnIs Go.Proofs.Tryz.prog lay 34 g34 := ⟨⟨Go.Proofs.Tryz.f34, Go.Proofs.Tryz.f34.body.getD .skip, Go.Proofs.Tryz.func34, by kernel_rfl, by kernel_rfl, by kernel_rfl, by kernel_rfl, by kernel_rfl⟩⟩
theorem t35 : FnIs Go.Proofs.Tryz.prog lay 35 g35 := ⟨⟨Go.Proofs.Tryz.f35, Go.Proofs.Tryz.f35.body.getD .skip, Go.Proofs.Tryz.func35, by kernel_rfl, by kernel_rfl, by kernel_rfl, by kernel_rfl, by kernel_rfl⟩⟩
theorem t36 : FnIs Go.Proofs.Tryz.prog lay 36 g36 := ⟨⟨Go.Proofs.Tryz.f36, Go.Proofs.Tryz.f36.body.getD .skip, Go.Proofs.Tryz.func36, by kernel_rfl, by kernel_rfl, by kernel_rfl, by kernel_rfl, by kernel_rfl⟩⟩
theorem t37 : FnIs Go.Proofs.Tryz.prog lay 37 g37 := ⟨⟨Go.Proofs.Tryz.f37, Go.Proofs.Tryz.f37.body.getD .skip, Go.Proofs.Tryz.func37, by kernel_rfl, by kernel_rfl, by kernel_rfl, by kernel_rfl, by kernel_rfl⟩⟩
theorem t38 : FnIs Go.Proofs.Tryz.prog lay 38 g38 := ⟨⟨Go.Proofs.Tryz.f38, Go.Proofs.Tryz.f38.body.getD .skip, Go.Proofs.Tryz.func38, by kernel_rfl, by kernel_rfl, by kernel_rfl, by kernel_rfl, by kernel_rfl⟩⟩
theorem t39 : FnIs Go.Proofs.Tryz.prog lay 39 g39 := ⟨⟨Go.Proofs.Tryz.f39, Go.Proofs.Tryz.f39.body.getD .skip, Go.Proofs.Tryz.func39, by kernel_rfl, by kernel_rfl, by kernel_rfl, by kernel_rfl, by kernel_rfl⟩⟩
theorem t40 : FnIs Go.Proofs.Tryz.prog lay 40 g40 := ⟨⟨Go.Proofs.Tryz.f40, Go.Proofs.Tryz.f40.body.getD .skip, Go.Proofs.Tryz.func40, by kernel_rfl, by kernel_rfl, by kernel_rfl, by kernel_rfl, by kernel_rfl⟩⟩
theorem t41 : FnIs Go.Proofs.Tryz.prog lay 41 g41 := ⟨⟨Go.Proofs.Tryz.f41, Go.Proofs.Tryz.f41.body.getD .skip, Go.Proofs.Tryz.func41, by kernel_rfl, by kernel_rfl, by kernel_rfl, by kernel_rfl, by kernel_rfl⟩⟩
theorem t42 : FnIs Go.Proofs.Tryz.prog lay 42 g42 := ⟨⟨Go.Proofs.Tryz.f42, Go.Proofs.Tryz.f42.body.getD .skip, Go.Proofs.Tryz.func42, by kernel_rfl, by kernel_rfl, by kernel_rfl, by kernel_rfl, by kernel_rfl⟩⟩
theorem t43 : FnIs Go.Proofs.Tryz.prog lay 43 g43 := ⟨⟨Go.Proofs.Tryz.f43, Go.Proofs.Tryz.f43.body.getD .skip, Go.Proofs.Tryz.func43, by kernel_rfl, by kernel_rfl, by kernel_rfl, by kernel_rfl, by kernel_rfl⟩⟩
theorem t44 : FnIs Go.Proofs.Tryz.prog lay 44 g44 := ⟨⟨Go.Proofs.Tryz.f44, Go.Proofs.Tryz.f44.body.getD .skip, Go.Proofs.Tryz.func44, by kernel_rfl, by kernel_rfl, by kernel_rfl, by kernel_rfl, by kernel_rfl⟩⟩
theorem t45 : FnIs Go.Proofs.Tryz.prog lay 45 g45 := ⟨⟨Go.Proofs.Tryz.f45, Go.Proofs.Tryz.f45.body.getD .skip, Go.Proofs.Tryz.func45, by kernel_rfl, by kernel_rfl, by kernel_rfl, by kernel_rfl, by kernel_rfl⟩⟩
theorem t46 : FnIs Go.Proofs.Tryz.prog lay 46 g46 := ⟨⟨Go.Proofs.Tryz.f46, Go.Proofs.Tryz.f46.body.getD .skip, Go.Proofs.Tryz.func46, by kernel_rfl, by kernel_rfl, by kernel_rfl, by kernel_rfl, by kernel_rfl⟩⟩
theorem t47 : FnIs Go.Proofs.Tryz.prog lay 47 g47 := ⟨⟨Go.Proofs.Tryz.f47, Go.Proofs.Tryz.f47.body.getD .skip, Go.Proofs.Tryz.func47, by kernel_rfl, by kernel_rfl, by kernel_rfl, by kernel_rfl, by kernel_rfl⟩⟩
theorem t48 : FnIs Go.Proofs.Tryz.prog lay 48 g48 := ⟨⟨Go.Proofs.Tryz.f48, Go.Proofs.Tryz.f48.body.getD .skip, Go.Proofs.Tryz.func48, by kernel_rfl, by kernel_rfl, by kernel_rfl, by kernel_rfl, by kernel_rfl⟩⟩
theorem t49 : FnIs Go.Proofs.Tryz.prog lay 49 g49 := ⟨⟨Go.Proofs.Tryz.f49, Go.Proofs.Tryz.f49.body.getD .skip, Go.Proofs.Tryz.func49, by kernel_rfl, by kernel_rfl, by kernel_rfl, by kernel_rfl, by kernel_rfl⟩⟩
theorem t50 : FnIs Go.Proofs.Tryz.prog lay 50 g50 := ⟨⟨Go.Proofs.Tryz.f50, Go.Proofs.Tryz.f50.body.getD .skip, Go.Proofs.Tryz.func50, by kernel_rfl, by kernel_rfl, by kernel_rfl, by kernel_rfl, by kernel_rfl⟩⟩
theorem t51 : FnIs Go.Proofs.Tryz.prog lay 51 g51 := ⟨⟨Go.Proofs.Tryz.f51, Go.Proofs.Tryz.f51.body.getD .skip, Go.Proofs.Tryz.func51, by kernel_rfl, by kernel_rfl, by kernel_rfl, by kernel_rfl, by kernel_rfl⟩⟩
theorem t52 : FnIs Go.Proofs.Tryz.prog lay 52 g52 := ⟨⟨Go.Proofs.Tryz.f52, Go.Proofs.Tryz.f52.body.getD .skip, Go.Proofs.Tryz.func52, by kernel_rfl, by kernel_rfl, by kernel_rfl, by kernel_rfl, by kernel_rfl⟩⟩
theorem t53 : FnIs Go.Proofs.Tryz.prog lay 53 g53 := ⟨⟨Go.Proofs.Tryz.f53, Go.Proofs.Tryz.f53.body.getD .skip, Go.Proofs.Tryz.func53, by kernel_rfl, by kernel_rfl, by kernel_rfl, by kernel_rfl, by kernel_rfl⟩⟩
theorem t54 : FnIs Go.Proofs.Tryz.prog lay 54 g54 := ⟨⟨Go.Proofs.Tryz.f54, Go.Proofs.Tryz.f54.body.getD .skip, Go.Proofs.Tryz.func54, by kernel_rfl, by kernel_rfl, by kernel_rfl, by kernel_rfl, by kernel_rfl⟩⟩
theorem t55 : FnIs Go.Proofs.Tryz.prog lay 55 g55 := ⟨⟨Go.Proofs.Tryz.f55, Go.Proofs.Tryz.f55.body.getD .skip, Go.Proofs.Tryz.func55, by kernel_rfl, by kernel_rfl, by kernel_rfl, by kernel_rfl, by kernel_rfl⟩⟩
theorem t56 : FnIs Go.Proofs.Tryz.prog lay 56 g56 := ⟨⟨Go.Proofs.Tryz.f56, Go.Proofs.Tryz.f56.body.getD .skip, Go.Proofs.Tryz.func56, by kernel_rfl, by kernel_rfl, by kernel_rfl, by kernel_rfl, by kernel_rfl⟩⟩
theorem t57 : FnIs Go.Proofs.Tryz.prog lay 57 g57 := ⟨⟨Go.Proofs.Tryz.f57, Go.Proofs.Tryz.f57.body.getD .skip, Go.Proofs.Tryz.func57, by kernel_rfl, by kernel_rfl, by kernel_rfl, by kernel_rfl, by kernel_rfl⟩⟩
theorem t58 : FnIs Go.Proofs.Tryz.prog lay 58 g58 := ⟨⟨Go.Proofs.Tryz.f58, Go.Proofs.Tryz.f58.body.getD .skip, Go.Proofs.Tryz.func58, by kernel_rfl, by kernel_rfl, by kernel_rfl, by kernel_rfl, by kernel_rfl⟩⟩
theorem t59 : FnIs Go.Proofs.Tryz.prog lay 59 g59 := ⟨⟨Go.Proofs.Tryz.f59, Go.Proofs.Tryz.f59.body.getD .skip, Go.Proofs.Tryz.func59, by kernel_rfl, by kernel_rfl, by kernel_rfl, by kernel_rfl, by kernel_rfl⟩⟩
theorem t60 : FnIs Go.Proofs.Tryz.prog lay 60 g60 := ⟨⟨Go.Proofs.Tryz.f60, Go.Proofs.Tryz.f60.body.getD .skip, Go.Proofs.Tryz.func60, by kernel_rfl, by kernel_rfl, by kernel_rfl, by kernel_rfl, by kernel_rfl⟩⟩
theorem t61 : FnIs Go.Proofs.Tryz.prog lay 61 g61 := ⟨⟨Go.Proofs.Tryz.f61, Go.Proofs.Tryz.f61.body.getD .skip, Go.Proofs.Tryz.func61, by kernel_rfl, by kernel_rfl, by kernel_rfl, by kernel_rfl, by kernel_rfl⟩⟩
theorem t62 : FnIs Go.Proofs.Tryz.prog lay 62 g62 := ⟨⟨Go.Proofs.Tryz.f62, Go.Proofs.Tryz.f62.body.getD .skip, Go.Proofs.Tryz.func62, by kernel_rfl, by kernel_rfl, by kernel_rfl, by kernel_rfl, by kernel_rfl⟩⟩
theorem t63 : FnIs Go.Proofs.Tryz.prog lay 63 g63 := ⟨⟨Go.Proofs.Tryz.f63, Go.Proofs.Tryz.f63.body.getD .skip, Go.Proofs.Tryz.func63, by kernel_rfl, by kernel_rfl, by kernel_rfl, by kernel_rfl, by kernel_rfl⟩⟩
theorem t64 : FnIs Go.Proofs.Tryz.prog lay 64 g64 := ⟨⟨Go.Proofs.Tryz.f64, Go.Proofs.Tryz.f64.body.getD .skip, Go.Proofs.Tryz.func64, by kernel_rfl, by kernel_rfl, by kernel_rfl, by kernel_rfl, by kernel_rfl⟩⟩
theorem t65 : FnIs Go.Proofs.Tryz.prog lay 65 g65 := ⟨⟨Go.Proofs.Tryz.f65, Go.Proofs.Tryz.f65.body.getD .skip, Go.Proofs.Tryz.func65, by kernel_rfl, by kernel_rfl, by kernel_rfl, by kernel_rfl, by kernel_rfl⟩⟩
theorem t66 : FnIs Go.Proofs.Tryz.prog lay 66 g66 := ⟨⟨Go.Proofs.Tryz.f66, Go.Proofs.Tryz.f66.body.getD .skip, Go.Proofs.Tryz.func66, by kernel_rfl, by kernel_rfl, by kernel_rfl, by kernel_rfl, by kernel_rfl⟩⟩
theorem t67 : FnIs Go.Proofs.Tryz.prog lay 67 g67 := ⟨⟨Go.Proofs.Tryz.f67, Go.Proofs.Tryz.f67.body.getD .skip, Go.Proofs.Tryz.func67, by kernel_rfl, by kernel_rfl, by kernel_rfl, by kernel_rfl, by kernel_rfl⟩⟩
theorem t68 : FnIs Go.Proofs.Tryz.prog lay 68 g68 := ⟨⟨Go.Proofs.Tryz.f68, Go.Proofs.Tryz.f68.body.getD .skip, Go.Proofs.Tryz.func68, by kernel_rfl, by kernel_rfl, by kernel_rfl, by kernel_rfl, by kernel_rfl⟩⟩
theorem t69 : FnIs Go.Proofs.Tryz.prog lay 69 g69 := ⟨⟨Go.Proofs.Tryz.f69, Go.Proofs.Tryz.f69.body.getD .skip, Go.Proofs.Tryz.func69, by kernel_rfl, by kernel_rfl, by kernel_rfl, by kernel_rfl, by kernel_rfl⟩⟩
theorem t70 : FnIs Go.Proofs.Tryz.prog lay 70 g70 := ⟨⟨Go.Proofs.Tryz.f70, Go.Proofs.Tryz.f70.body.getD .skip, Go.Proofs.Tryz.func70, by kernel_rfl, by kernel_rfl, by kernel_rfl, by kernel_rfl, by kernel_rfl⟩⟩
theorem t71 : FnIs Go.Proofs.Tryz.prog lay 71 g71 := ⟨⟨Go.Proofs.Tryz.f71, Go.Proofs.Tryz.f71.body.getD .skip, Go.Proofs.Tryz.func71, by kernel_rfl, by kernel_rfl, by kernel_rfl, by kernel_rfl, by kernel_rfl⟩⟩
theorem t72 : FnIs Go.Proofs.Tryz.prog lay 72 g72 := ⟨⟨Go.Proofs.Tryz.f72, Go.Proofs.Tryz.f72.body.getD .skip, Go.Proofs.Tryz.func72, by kernel_rfl, by kernel_rfl, by kernel_rfl, by kernel_rfl, by kernel_rfl⟩⟩
theorem t73 : FnIs Go.Proofs.Tryz.prog lay 73 g73 := ⟨⟨Go.Proofs.Tryz.f73, Go.Proofs.Tryz.f73.body.getD .skip, Go.Proofs.Tryz.func73, by kernel_rfl, by kernel_rfl, by kernel_rfl, by kernel_rfl, by kernel_rfl⟩⟩
theorem t74 : FnIs Go.Proofs.Tryz.prog lay 74 g74 := ⟨⟨Go.Proofs.Tryz.f74, Go.Proofs.Tryz.f74.body.getD .skip, Go.Proofs.Tryz.func74, by kernel_rfl, by kernel_rfl, by kernel_rfl, by kernel_rfl, by kernel_rfl⟩⟩
theorem t75 : FnIs Go.Proofs.Tryz.prog lay 75 g75 := ⟨⟨Go.Proofs.Tryz.f75, Go.Proofs.Tryz.f75.body.getD .skip, Go.Proofs.Tryz.func75, by kernel_rfl, by kernel_rfl, by kernel_rfl, by kernel_rfl, by kernel_rfl⟩⟩
theorem t76 : FnIs Go.Proofs.Tryz.prog lay 76 g76 := ⟨⟨Go.Proofs.Tryz.f76, Go.Proofs.Tryz.f76.body.getD .skip, Go.Proofs.Tryz.func76, by kernel_rfl, by kernel_rfl, by kernel_rfl, by kernel_rfl, by kernel_rfl⟩⟩
theorem t77 : FnIs Go.Proofs.Tryz.prog lay 77 g77 := ⟨⟨Go.Proofs.Tryz.f77, Go.Proofs.Tryz.f77.body.getD .skip, Go.Proofs.Tryz.func77, by kernel_rfl, by kernel_rfl, by kernel_rfl, by kernel_rfl, by kernel_rfl⟩⟩
theorem t78 : FnIs Go.Proofs.Tryz.prog lay 78 g78 := ⟨⟨Go.Proofs.Tryz.f78, Go.Proofs.Tryz.f78.body.getD .skip, Go.Proofs.Tryz.func78, by kernel_rfl, by kernel_rfl, by kernel_rfl, by kernel_rfl, by kernel_rfl⟩⟩
theorem t79 : FnIs Go.Proofs.Tryz.prog lay 79 g79 := ⟨⟨Go.Proofs.Tryz.f79, Go.Proofs.Tryz.f79.body.getD .skip, Go.Proofs.Tryz.func79, by kernel_rfl, by kernel_rfl, by kernel_rfl, by kernel_rfl, by kernel_rfl⟩⟩
theorem t80 : FnIs Go.Proofs.Tryz.prog lay 80 g80 := ⟨⟨Go.Proofs.Tryz.f80, Go.Proofs.Tryz.f80.body.getD .skip, Go.Proofs.Tryz.func80, by kernel_rfl, by kernel_rfl, by kernel_rfl, by kernel_rfl, by kernel_rfl⟩⟩
theorem t81 : FnIs Go.Proofs.Tryz.prog lay 81 g81 := ⟨⟨Go.Proofs.Tryz.f81, Go.Proofs.Tryz.f81.body.getD .skip, Go.Proofs.Tryz.func81, by kernel_rfl, by kernel_rfl, by kernel_rfl, by kernel_rfl, by kernel_rfl⟩⟩
theorem t82 : FnIs Go.Proofs.Tryz.prog lay 82 g82 := ⟨⟨Go.Proofs.Tryz.f82, Go.Proofs.Tryz.f82.body.getD .skip, Go.Proofs.Tryz.func82, by kernel_rfl, by kernel_rfl, by kernel_rfl, by kernel_rfl, by kernel_rfl⟩⟩
theorem t83 : FnIs Go.Proofs.Tryz.prog lay 83 g83 := ⟨⟨Go.Proofs.Tryz.f83, Go.Proofs.Tryz.f83.body.getD .skip, Go.Proofs.Tryz.func83, by kernel_rfl, by kernel_rfl, by kernel_rfl, by kernel_rfl, by kernel_rfl⟩⟩
theorem t84 : FnIs Go.Proofs.Tryz.prog lay 84 g84 := ⟨⟨Go.Proofs.Tryz.f84, Go.Proofs.Tryz.f84.body.getD .skip, Go.Proofs.Tryz.func84, by kernel_rfl, by kernel_rfl, by kernel_rfl, by kernel_rfl, by kernel_rfl⟩⟩
theorem t85 : FnIs Go.Proofs.Tryz.prog lay 85 g85 := ⟨⟨Go.Proofs.Tryz.f85, Go.Proofs.Tryz.f85.body.getD .skip, Go.Proofs.Tryz.func85, by kernel_rfl, by kernel_rfl, by kernel_rfl, by kernel_rfl, by kernel_rfl⟩⟩
theorem t86 : FnIs Go.Proofs.Tryz.prog lay 86 g86 := ⟨⟨Go.Proofs.Tryz.f86, Go.Proofs.Tryz.f86.body.getD .skip, Go.Proofs.Tryz.func86, by kernel_rfl, by kernel_rfl, by kernel_rfl, by kernel_rfl, by kernel_rfl⟩⟩
theorem t87 : FnIs Go.Proofs.Tryz.prog lay 87 g87 := ⟨⟨Go.Proofs.Tryz.f87, Go.Proofs.Tryz.f87.body.getD .skip, Go.Proofs.Tryz.func87, by kernel_rfl, by kernel_rfl, by kernel_rfl, by kernel_rfl, by kernel_rfl⟩⟩
theorem t88 : FnIs Go.Proofs.Tryz.prog lay 88 g88 := ⟨⟨Go.Proofs.Tryz.f88, Go.Proofs.Tryz.f88.body.getD .skip, Go.Proofs.Tryz.func88, by kernel_rfl, by kernel_rfl, by kernel_rfl, by kernel_rfl, by kernel_rfl⟩⟩
theorem t89 : FnIs Go.Proofs.Tryz.prog lay 89 g89 := ⟨⟨Go.Proofs.Tryz.f89, Go.Proofs.Tryz.f89.body.getD .skip, Go.Proofs.Tryz.func89, by kernel_rfl, by kernel_rfl, by kernel_rfl, by kernel_rfl, by kernel_rfl⟩⟩
theorem t90 : FnIs Go.Proofs.Tryz.prog lay 90 g90 := ⟨⟨Go.Proofs.Tryz.f90, Go.Proofs.Tryz.f90.body.getD .skip, Go.Proofs.Tryz.func90, by kernel_rfl, by kernel_rfl, by kernel_rfl, by kernel_rfl, by kernel_rfl⟩⟩
theorem t91 : FnIs Go.Proofs.Tryz.prog lay 91 g91 := ⟨⟨Go.Proofs.Tryz.f91, Go.Proofs.Tryz.f91.body.getD .skip, Go.Proofs.Tryz.func91, by kernel_rfl, by kernel_rfl, by kernel_rfl, by kernel_rfl, by kernel_rfl⟩⟩
theorem t92 : FnIs Go.Proofs.Tryz.prog lay 92 g92 := ⟨⟨Go.Proofs.Tryz.f92, Go.Proofs.Tryz.f92.body.getD .skip, Go.Proofs.Tryz.func92, by kernel_rfl, by kernel_rfl, by kernel_rfl, by kernel_rfl, by kernel_rfl⟩⟩
theorem t93 : FnIs Go.Proofs.Tryz.prog lay 93 g93 := ⟨⟨Go.Proofs.Tryz.f93, Go.Proofs.Tryz.f93.body.getD .skip, Go.Proofs.Tryz.func93, by kernel_rfl, by kernel_rfl, by kernel_rfl, by kernel_rfl, by kernel_rfl⟩⟩
theorem t94 : FnIs Go.Proofs.Tryz.prog lay 94 g94 := ⟨⟨Go.Proofs.Tryz.f94, Go.Proofs.Tryz.f94.body.getD .skip, Go.Proofs.Tryz.func94, by kernel_rfl, by kernel_rfl, by kernel_rfl, by kernel_rfl, by kernel_rfl⟩⟩
theorem t95 : FnIs Go.Proofs.Tryz.prog lay 95 g95 := ⟨⟨Go.Proofs.Tryz.f95, Go.Proofs.Tryz.f95.body.getD .skip, Go.Proofs.Tryz.func95, by kernel_rfl, by kernel_rfl, by kernel_rfl, by kernel_rfl, by kernel_rfl⟩⟩
theorem t96 : FnIs Go.Proofs.Tryz.prog lay 96 g96 := ⟨⟨Go.Proofs.Tryz.f96, Go.Proofs.Tryz.f96.body.getD .skip, Go.Proofs.Tryz.func96, by kernel_rfl, by kernel_rfl, by kernel_rfl, by kernel_rfl, by kernel_rfl⟩⟩
theorem t97 : FnIs Go.Proofs.Tryz.prog lay 97 g97 := ⟨⟨Go.Proofs.Tryz.f97, Go.Proofs.Tryz.f97.body.getD .skip, Go.Proofs.Tryz.func97, by kernel_rfl, by kernel_rfl, by kernel_rfl, by kernel_rfl, by kernel_rfl⟩⟩
theorem t98 : FnIs Go.Proofs.Tryz.prog lay 98 g98 := ⟨⟨Go.Proofs.Tryz.f98, Go.Proofs.Tryz.f98.body.getD .skip, Go.Proofs.Tryz.func98, by kernel_rfl, by kernel_rfl, by kernel_rfl, by kernel_rfl, by kernel_rfl⟩⟩
theorem t99 : FnIs Go.Proofs.Tryz.prog lay 99 g99 := ⟨⟨Go.Proofs.Tryz.f99, Go.Proofs.Tryz.f99.body.getD .skip, Go.Proofs.Tryz.func99, by kernel_rfl, by kernel_rfl, by kernel_rfl, by kernel_rfl, by kernel_rfl⟩⟩
theorem t100 : FnIs Go.Proofs.Tryz.prog lay 100 g100 := ⟨⟨Go.Proofs.Tryz.f100, Go.Proofs.Tryz.f100.body.getD .skip, Go.Proofs.Tryz.func100, by kernel_rfl, by kernel_rfl, by kernel_rfl, by kernel_rfl, by kernel_rfl⟩⟩
theorem t101 : FnIs Go.Proofs.Tryz.prog lay 101 g101 := ⟨⟨Go.Proofs.Tryz.f101, Go.Proofs.Tryz.f101.body.getD .skip, Go.Proofs.Tryz.func101, by kernel_rfl, by kernel_rfl, by kernel_rfl, by kernel_rfl, by kernel_rfl⟩⟩
theorem t102 : FnIs Go.Proofs.Tryz.prog lay 102 g102 := ⟨⟨Go.Proofs.Tryz.f102, Go.Proofs.Tryz.f102.body.getD .skip, Go.Proofs.Tryz.func102, by kernel_rfl, by kernel_rfl, by kernel_rfl, by kernel_rfl, by kernel_rfl⟩⟩
theorem t103 : FnIs Go.Proofs.Tryz.prog lay 103 g103 := ⟨⟨Go.Proofs.Tryz.f103, Go.Proofs.Tryz.f103.body.getD .skip, Go.Proofs.Tryz.func103, by kernel_rfl, by kernel_rfl, by kernel_rfl, by kernel_rfl, by kernel_rfl⟩⟩
theorem t104 : FnIs Go.Proofs.Tryz.prog lay 104 g104 := ⟨⟨Go.Proofs.Tryz.f104, Go.Proofs.Tryz.f104.body.getD .skip, Go.Proofs.Tryz.func104, by kernel_rfl, by kernel_rfl, by kernel_rfl, by kernel_rfl, by kernel_rfl⟩⟩
theorem t105 : FnIs Go.Proofs.Tryz.prog lay 105 g105 := ⟨⟨Go.Proofs.Tryz.f105, Go.Proofs.Tryz.f105.body.getD .skip, Go.Proofs.Tryz.func105, by kernel_rfl, by kernel_rfl, by kernel_rfl, by kernel_rfl, by kernel_rfl⟩⟩
theorem t106 : FnIs Go.Proofs.Tryz.prog lay 106 g106 := ⟨⟨Go.Proofs.Tryz.f106, Go.Proofs.Tryz.f106.body.getD .skip, Go.Proofs.Tryz.func106, by kernel_rfl, by kernel_rfl, by kernel_rfl, by kernel_rfl, by kernel_rfl⟩⟩
theorem t107 : FnIs Go.Proofs.Tryz.prog lay 107 g107 := ⟨⟨Go.Proofs.Tryz.f107, Go.Proofs.Tryz.f107.body.getD .skip, Go.Proofs.Tryz.func107, by kernel_rfl, by kernel_rfl, by kernel_rfl, by kernel_rfl, by kernel_rfl⟩⟩
theorem t108 : FnIs Go.Proofs.Tryz.prog lay 108 g108 := ⟨⟨Go.Proofs.Tryz.f108, Go.Proofs.Tryz.f108.body.getD .skip, Go.Proofs.Tryz.func108, by kernel_rfl, by kernel_rfl, by kernel_rfl, by kernel_rfl, by kernel_rfl⟩⟩
theorem t109 : FnIs Go.Proofs.Tryz.prog lay 109 g109 := ⟨⟨Go.Proofs.Tryz.f109, Go.Proofs.Tryz.f109.body.getD .skip, Go.Proofs.Tryz.func109, by kernel_rfl, by kernel_rfl, by kernel_rfl, by kernel_rfl, by kernel_rfl⟩⟩
theorem t110 : FnIs Go.Proofs.Tryz.prog lay 110 g110 := ⟨⟨Go.Proofs.Tryz.f110, Go.Proofs.Tryz.f110.body.getD .skip, Go.Proofs.Tryz.func110, by kernel_rfl, by kernel_rfl, by kernel_rfl, by kernel_rfl, by kernel_rfl⟩⟩
theorem t111 : FnIs Go.Proofs.Tryz.prog lay 111 g111 := ⟨⟨Go.Proofs.Tryz.f111, Go.Proofs.Tryz.f111.body.getD .skip, Go.Proofs.Tryz.func111, by kernel_rfl, by kernel_rfl, by kernel_rfl, by kernel_rfl, by kernel_rfl⟩⟩
theorem t112 : FnIs Go.Proofs.Tryz.prog lay 112 g112 := ⟨⟨Go.Proofs.Tryz.f112, Go.Proofs.Tryz.f112.body.getD .skip, Go.Proofs.Tryz.func112, by kernel_rfl, by kernel_rfl, by kernel_rfl, by kernel_rfl, by kernel_rfl⟩⟩
theorem t113 : FnIs Go.Proofs.Tryz.prog lay 113 g113 := ⟨⟨Go.Proofs.Tryz.f113, Go.Proofs.Tryz.f113.body.getD .skip, Go.Proofs.Tryz.func113, by kernel_rfl, by kernel_rfl, by kernel_rfl, by kernel_rfl, by kernel_rfl⟩⟩
theorem t114 : FnIs Go.Proofs.Tryz.prog lay 114 g114 := ⟨⟨Go.Proofs.Tryz.f114, Go.Proofs.Tryz.f114.body.getD .skip, Go.Proofs.Tryz.func114, by kernel_rfl, by kernel_rfl, by kernel_rfl, by kernel_rfl, by kernel_rfl⟩⟩
theorem t115 : FnIs Go.Proofs.Tryz.prog lay 115 g115 := ⟨⟨Go.Proofs.Tryz.f115, Go.Proofs.Tryz.f115.body.getD .skip, Go.Proofs.Tryz.func115, by kernel_rfl, by kernel_rfl, by kernel_rfl, by kernel_rfl, by kernel_rfl⟩⟩
theorem t116 : FnIs Go.Proofs.Tryz.prog lay 116 g116 := ⟨⟨Go.Proofs.Tryz.f116, Go.Proofs.Tryz.f116.body.getD .skip, Go.Proofs.Tryz.func116, by kernel_rfl, by kernel_rfl, by kernel_rfl, by kernel_rfl, by kernel_rfl⟩⟩
theorem t117 : FnIs Go.Proofs.Tryz.prog lay 117 g117 := ⟨⟨Go.Proofs.Tryz.f117, Go.Proofs.Tryz.f117.body.getD .skip, Go.Proofs.Tryz.func117, by kernel_rfl, by kernel_rfl, by kernel_rfl, by kernel_rfl, by kernel_rfl⟩⟩
theorem t118 : FnIs Go.Proofs.Tryz.prog lay 118 g118 := ⟨⟨Go.Proofs.Tryz.f118, Go.Proofs.Tryz.f118.body.getD .skip, Go.Proofs.Tryz.func118, by kernel_rfl, by kernel_rfl, by kernel_rfl, by kernel_rfl, by kernel_rfl⟩⟩
theorem t119 : FnIs Go.Proofs.Tryz.prog lay 119 g119 := ⟨⟨Go.Proofs.Tryz.f119, Go.Proofs.Tryz.f119.body.getD .skip, Go.Proofs.Tryz.func119, by kernel_rfl, by kernel_rfl, by kernel_rfl, by kernel_rfl, by kernel_rfl⟩⟩
theorem t120 : FnIs Go.Proofs.Tryz.prog lay 120 g120 := ⟨⟨Go.Proofs.Tryz.f120, Go.Proofs.Tryz.f120.body.getD .skip, Go.Proofs.Tryz.func120, by kernel_rfl, by kernel_rfl, by kernel_rfl, by kernel_rfl, by kernel_rfl⟩⟩
theorem t121 : FnIs Go.Proofs.Tryz.prog lay 121 g121 := ⟨⟨Go.Proofs.Tryz.f121, Go.Proofs.Tryz.f121.body.getD .skip, Go.Proofs.Tryz.func121, by kernel_rfl, by kernel_rfl, by kernel_rfl, by kernel_rfl, by kernel_rfl⟩⟩
theorem t122 : FnIs Go.Proofs.Tryz.prog lay 122 g122 := ⟨⟨Go.Proofs.Tryz.f122, Go.Proofs.Tryz.f122.body.getD .skip, Go.Proofs.Tryz.func122, by kernel_rfl, by kernel_rfl, by kernel_rfl, by kernel_rfl, by kernel_rfl⟩⟩
theorem t123 : FnIs Go.Proofs.Tryz.prog lay 123 g123 := ⟨⟨Go.Proofs.Tryz.f123, Go.Proofs.Tryz.f123.body.getD .skip, Go.Proofs.Tryz.func123, by kernel_rfl, by kernel_rfl, by kernel_rfl, by kernel_rfl, by kernel_rfl⟩⟩
theorem t124 : FnIs Go.Proofs.Tryz.prog lay 124 g124 := ⟨⟨Go.Proofs.Tryz.f124, Go.Proofs.Tryz.f124.body.getD .skip, Go.Proofs.Tryz.func124, by kernel_rfl, by kernel_rfl, by kernel_rfl, by kernel_rfl, by kernel_rfl⟩⟩
theorem t125 : FnIs Go.Proofs.Tryz.prog lay 125 g125 := ⟨⟨Go.Proofs.Tryz.f125, Go.Proofs.Tryz.f125.body.getD .skip, Go.Proofs.Tryz.func125, by kernel_rfl, by kernel_rfl, by kernel_rfl, by kernel_rfl, by kernel_rfl⟩⟩
theorem t126 : FnIs Go.Proofs.Tryz.prog lay 126 g126 := ⟨⟨Go.Proofs.Tryz.f126, Go.Proofs.Tryz.f126.body.getD .skip, Go.Proofs.Tryz.func126, by kernel_rfl, by kernel_rfl, by kernel_rfl, by kernel_rfl, by kernel_rfl⟩⟩
theorem t127 : FnIs Go.Proofs.Tryz.prog lay 127 g127 := ⟨⟨Go.Proofs.Tryz.f127, Go.Proofs.Tryz.f127.body.getD .skip, Go.Proofs.Tryz.func127, by kernel_rfl, by kernel_rfl, by kernel_rfl, by kernel_rfl, by kernel_rfl⟩⟩
theorem t128 : FnIs Go.Proofs.Tryz.prog lay 128 g128 := ⟨⟨Go.Proofs.Tryz.f128, Go.Proofs.Tryz.f128.body.getD .skip, Go.Proofs.Tryz.func128, by kernel_rfl, by kernel_rfl, by kernel_rfl, by kernel_rfl, by kernel_rfl⟩⟩
theorem t129 : FnIs Go.Proofs.Tryz.prog lay 129 g129 := ⟨⟨Go.Proofs.Tryz.f129, Go.Proofs.Tryz.f129.body.getD .skip, Go.Proofs.Tryz.func129, by kernel_rfl, by kernel_rfl, by kernel_rfl, by kernel_rfl, by kernel_rfl⟩⟩
theorem t130 : FnIs Go.Proofs.Tryz.prog lay 130 g130 := ⟨⟨Go.Proofs.Tryz.f130, Go.Proofs.Tryz.f130.body.getD .skip, Go.Proofs.Tryz.func130, by kernel_rfl, by kernel_rfl, by kernel_rfl, by kernel_rfl, by kernel_rfl⟩⟩
theorem t131 : FnIs Go.Proofs.Tryz.prog lay 131 g131 := ⟨⟨Go.Proofs.Tryz.f131, Go.Proofs.Tryz.f131.body.getD .skip, Go.Proofs.Tryz.func131, by kernel_rfl, by kernel_rfl, by kernel_rfl, by kernel_rfl, by kernel_rfl⟩⟩
theorem t132 : FnIs Go.Proofs.Tryz.prog lay 132 g132 := ⟨⟨Go.Proofs.Tryz.f132, Go.Proofs.Tryz.f132.body.getD .skip, Go.Proofs.Tryz.func132, by kernel_rfl, by kernel_rfl, by kernel_rfl, by kernel_rfl, by kernel_rfl⟩⟩
theorem t133 : FnIs Go.Proofs.Tryz.prog lay 133 g133 := ⟨⟨Go.Proofs.Tryz.f133, Go.Proofs.Tryz.f133.body.getD .skip, Go.Proofs.Tryz.func133, by kernel_rfl, by kernel_rfl, by kernel_rfl, by kernel_rfl, by kernel_rfl⟩⟩
theorem t134 : FnIs Go.Proofs.Tryz.prog lay 134 g134 := ⟨⟨Go.Proofs.Tryz.f134, Go.Proofs.Tryz.f134.body.getD .skip, Go.Proofs.Tryz.func134, by kernel_rfl, by kernel_rfl, by kernel_rfl, by kernel_rfl, by kernel_rfl⟩⟩
theorem t135 : FnIs Go.Proofs.Tryz.prog lay 135 g135 := ⟨⟨Go.Proofs.Tryz.f135, Go.Proofs.Tryz.f135.body.getD .skip, Go.Proofs.Tryz.func135, by kernel_rfl, by kernel_rfl, by kernel_rfl, by kernel_rfl, by kernel_rfl⟩⟩
theorem t136 : FnIs Go.Proofs.Tryz.prog lay 136 g136 := ⟨⟨Go.Proofs.Tryz.f136, Go.Proofs.Tryz.f136.body.getD .skip, Go.Proofs.Tryz.func136, by kernel_rfl, by kernel_rfl, by kernel_rfl, by kernel_rfl, by kernel_rfl⟩⟩
theorem t137 : FnIs Go.Proofs.Tryz.prog lay 137 g137 := ⟨⟨Go.Proofs.Tryz.f137, Go.Proofs.Tryz.f137.body.getD .skip, Go.Proofs.Tryz.func137, by kernel_rfl, by kernel_rfl, by kernel_rfl, by kernel_rfl, by kernel_rfl⟩⟩
theorem t138 : FnIs Go.Proofs.Tryz.prog lay 138 g138 := ⟨⟨Go.Proofs.Tryz.f138, Go.Proofs.Tryz.f138.body.getD .skip, Go.Proofs.Tryz.func138, by kernel_rfl, by kernel_rfl, by kernel_rfl, by kernel_rfl, by kernel_rfl⟩⟩
theorem t139 : FnIs Go.Proofs.Tryz.prog lay 139 g139 := ⟨⟨Go.Proofs.Tryz.f139, Go.Proofs.Tryz.f139.body.getD .skip, Go.Proofs.Tryz.func139, by kernel_rfl, by kernel_rfl, by kernel_rfl, by kernel_rfl, by kernel_rfl⟩⟩
theorem t140 : FnIs Go.Proofs.Tryz.prog lay 140 g140 := ⟨⟨Go.Proofs.Tryz.f140, Go.Proofs.Tryz.f140.body.getD .skip, Go.Proofs.Tryz.func140, by kernel_rfl, by kernel_rfl, by kernel_rfl, by kernel_rfl, by kernel_rfl⟩⟩
theorem t141 : FnIs Go.Proofs.Tryz.prog lay 141 g141 := ⟨⟨Go.Proofs.Tryz.f141, Go.Proofs.Tryz.f141.body.getD .skip, Go.Proofs.Tryz.func141, by kernel_rfl, by kernel_rfl, by kernel_rfl, by kernel_rfl, by kernel_rfl⟩⟩
theorem t142 : FnIs Go.Proofs.Tryz.prog lay 142 g142 := ⟨⟨Go.Proofs.Tryz.f142, Go.Proofs.Tryz.f142.body.getD .skip, Go.Proofs.Tryz.func142, by kernel_rfl, by kernel_rfl, by kernel_rfl, by kernel_rfl, by kernel_rfl⟩⟩
theorem t143 : FnIs Go.Proofs.Tryz.prog lay 143 g143 := ⟨⟨Go.Proofs.Tryz.f143, Go.Proofs.Tryz.f143.body.getD .skip, Go.Proofs.Tryz.func143, by kernel_rfl, by kernel_rfl, by kernel_rfl, by kernel_rfl, by kernel_rfl⟩⟩
theorem t144 : FnIs Go.Proofs.Tryz.prog lay 144 g144 := ⟨⟨Go.Proofs.Tryz.f144, Go.Proofs.Tryz.f144.body.getD .skip, Go.Proofs.Tryz.func144, by kernel_rfl, by kernel_rfl, by kernel_rfl, by kernel_rfl, by kernel_rfl⟩⟩
theorem t145 : FnIs Go.Proofs.Tryz.prog lay 145 g145 := ⟨⟨Go.Proofs.Tryz.f145, Go.Proofs.Tryz.f145.body.getD .skip, Go.Proofs.Tryz.func145, by kernel_rfl, by kernel_rfl, by kernel_rfl, by kernel_rfl, by kernel_rfl⟩⟩
theorem t146 : FnIs Go.Proofs.Tryz.prog lay 146 g146 := ⟨⟨Go.Proofs.Tryz.f146, Go.Proofs.Tryz.f146.body.getD .skip, Go.Proofs.Tryz.func146, by kernel_rfl, by kernel_rfl, by kernel_rfl, by kernel_rfl, by kernel_rfl⟩⟩
theorem t147 : FnIs Go.Proofs.Tryz.prog lay 147 g147 := ⟨⟨Go.Proofs.Tryz.f147, Go.Proofs.Tryz.f147.body.getD .skip, Go.Proofs.Tryz.func147, by kernel_rfl, by kernel_rfl, by kernel_rfl, by kernel_rfl, by kernel_rfl⟩⟩
theorem t148 : FnIs Go.Proofs.Tryz.prog lay 148 g148 := ⟨⟨Go.Proofs.Tryz.f148, Go.Proofs.Tryz.f148.body.getD .skip, Go.Proofs.Tryz.func148, by kernel_rfl, by kernel_rfl, by kernel_rfl, by kernel_rfl, by kernel_rfl⟩⟩
theorem t149 : FnIs Go.Proofs.Tryz.prog lay 149 g149 := ⟨⟨Go.Proofs.Tryz.f149, Go.Proofs.Tryz.f149.body.getD .skip, Go.Proofs.Tryz.func149, by kernel_rfl, by kernel_rfl, by kernel_rfl, by kernel_rfl, by kernel_rfl⟩⟩
theorem t150 : FnIs Go.Proofs.Tryz.prog lay 150 g150 := ⟨⟨Go.Proofs.Tryz.f150, Go.Proofs.Tryz.f150.body.getD .skip, Go.Proofs.Tryz.func150, by kernel_rfl, by kernel_rfl, by kernel_rfl, by kernel_rfl, by kernel_rfl⟩⟩
theorem t151 : FnIs Go.Proofs.Tryz.prog lay 151 g151 := ⟨⟨Go.Proofs.Tryz.f151, Go.Proofs.Tryz.f151.body.getD .skip, Go.Proofs.Tryz.func151, by kernel_rfl, by kernel_rfl, by kernel_rfl, by kernel_rfl, by kernel_rfl⟩⟩
theorem t152 : FnIs Go.Proofs.Tryz.prog lay 152 g152 := ⟨⟨Go.Proofs.Tryz.f152, Go.Proofs.Tryz.f152.body.getD .skip, Go.Proofs.Tryz.func152, by kernel_rfl, by kernel_rfl, by kernel_rfl, by kernel_rfl, by kernel_rfl⟩⟩
theorem t153 : FnIs Go.Proofs.Tryz.prog lay 153 g153 := ⟨⟨Go.Proofs.Tryz.f153, Go.Proofs.Tryz.f153.body.getD .skip, Go.Proofs.Tryz.func153, by kernel_rfl, by kernel_rfl, by kernel_rfl, by kernel_rfl, by kernel_rfl⟩⟩
theorem t154 : FnIs Go.Proofs.Tryz.prog lay 154 g154 := ⟨⟨Go.Proofs.Tryz.f154, Go.Proofs.Tryz.f154.body.getD .skip, Go.Proofs.Tryz.func154, by kernel_rfl, by kernel_rfl, by kernel_rfl, by kernel_rfl, by kernel_rfl⟩⟩
theorem t155 : FnIs Go.Proofs.Tryz.prog lay 155 g155 := ⟨⟨Go.Proofs.Tryz.f155, Go.Proofs.Tryz.f155.body.getD .skip, Go.Proofs.Tryz.func155, by kernel_rfl, by kernel_rfl, by kernel_rfl, by kernel_rfl, by kernel_rfl⟩⟩
theorem t156 : FnIs Go.Proofs.Tryz.prog lay 156 g156 := ⟨⟨Go.Proofs.Tryz.f156, Go.Proofs.Tryz.f156.body.getD .skip, Go.Proofs.Tryz.func156, by kernel_rfl, by kernel_rfl, by kernel_rfl, by kernel_rfl, by kernel_rfl⟩⟩
theorem t157 : FnIs Go.Proofs.Tryz.prog lay 157 g157 := ⟨⟨Go.Proofs.Tryz.f157, Go.Proofs.Tryz.f157.body.getD .skip, Go.Proofs.Tryz.func157, by kernel_rfl, by kernel_rfl, by kernel_rfl, by kernel_rfl, by kernel_rfl⟩⟩
theorem t158 : FnIs Go.Proofs.Tryz.prog lay 158 g158 := ⟨⟨Go.Proofs.Tryz.f158, Go.Proofs.Tryz.f158.body.getD .skip, Go.Proofs.Tryz.func158, by kernel_rfl, by kernel_rfl, by kernel_rfl, by kernel_rfl, by kernel_rfl⟩⟩
theorem t159 : FnIs Go.Proofs.Tryz.prog lay 159 g159 := ⟨⟨Go.Proofs.Tryz.f159, Go.Proofs.Tryz.f159.body.getD .skip, Go.Proofs.Tryz.func159, by kernel_rfl, by kernel_rfl, by kernel_rfl, by kernel_rfl, by kernel_rfl⟩⟩
theorem t160 : FnIs Go.Proofs.Tryz.prog lay 160 g160 := ⟨⟨Go.Proofs.Tryz.f160, Go.Proofs.Tryz.f160.body.getD .skip, Go.Proofs.Tryz.func160, by kernel_rfl, by kernel_rfl, by kernel_rfl, by kernel_rfl, by kernel_rfl⟩⟩
theorem t161 : FnIs Go.Proofs.Tryz.prog lay 161 g161 := ⟨⟨Go.Proofs.Tryz.f161, Go.Proofs.Tryz.f161.body.getD .skip, Go.Proofs.Tryz.func161, by kernel_rfl, by kernel_rfl, by kernel_rfl, by kernel_rfl, by kernel_rfl⟩⟩
theorem t162 : FnIs Go.Proofs.Tryz.prog lay 162 g162 := ⟨⟨Go.Proofs.Tryz.f162, Go.Proofs.Tryz.f162.body.getD .skip, Go.Proofs.Tryz.func162, by kernel_rfl, by kernel_rfl, by kernel_rfl, by kernel_rfl, by kernel_rfl⟩⟩
theorem t163 : FnIs Go.Proofs.Tryz.prog lay 163 g163 := ⟨⟨Go.Proofs.Tryz.f163, Go.Proofs.Tryz.f163.body.getD .skip, Go.Proofs.Tryz.func163, by kernel_rfl, by kernel_rfl, by kernel_rfl, by kernel_rfl, by kernel_rfl⟩⟩
theorem t164 : FnIs Go.Proofs.Tryz.prog lay 164 g164 := ⟨⟨Go.Proofs.Tryz.f164, Go.Proofs.Tryz.f164.body.getD .skip, Go.Proofs.Tryz.func164, by kernel_rfl, by kernel_rfl, by kernel_rfl, by kernel_rfl, by kernel_rfl⟩⟩
theorem t165 : FnIs Go.Proofs.Tryz.prog lay 165 g165 := ⟨⟨Go.Proofs.Tryz.f165, Go.Proofs.Tryz.f165.body.getD .skip, Go.Proofs.Tryz.func165, by kernel_rfl, by kernel_rfl, by kernel_rfl, by kernel_rfl, by kernel_rfl⟩⟩
theorem t166 : FnIs Go.Proofs.Tryz.prog lay 166 g166 := ⟨⟨Go.Proofs.Tryz.f166, Go.Proofs.Tryz.f166.body.getD .skip, Go.Proofs.Tryz.func166, by kernel_rfl, by kernel_rfl, by kernel_rfl, by kernel_rfl, by kernel_rfl⟩⟩
theorem t167 : FnIs Go.Proofs.Tryz.prog lay 167 g167 := ⟨⟨Go.Proofs.Tryz.f167, Go.Proofs.Tryz.f167.body.getD .skip, Go.Proofs.Tryz.func167, by kernel_rfl, by kernel_rfl, by kernel_rfl, by kernel_rfl, by kernel_rfl⟩⟩
theorem t168 : FnIs Go.Proofs.Tryz.prog lay 168 g168 := ⟨⟨Go.Proofs.Tryz.f168, Go.Proofs.Tryz.f168.body.getD .skip, Go.Proofs.Tryz.func168, by kernel_rfl, by kernel_rfl, by kernel_rfl, by kernel_rfl, by kernel_rfl⟩⟩
theorem t169 : FnIs Go.Proofs.Tryz.prog lay 169 g169 := ⟨⟨Go.Proofs.Tryz.f169, Go.Proofs.Tryz.f169.body.getD .skip, Go.Proofs.Tryz.func169, by kernel_rfl, by kernel_rfl, by kernel_rfl, by kernel_rfl, by kernel_rfl⟩⟩
theorem t170 : FnIs Go.Proofs.Tryz.prog lay 170 g170 := ⟨⟨Go.Proofs.Tryz.f170, Go.Proofs.Tryz.f170.body.getD .skip, Go.Proofs.Tryz.func170, by kernel_rfl, by kernel_rfl, by kernel_rfl, by kernel_rfl, by kernel_rfl⟩⟩
theorem t171 : FnIs Go.Proofs.Tryz.prog lay 171 g171 := ⟨⟨Go.Proofs.Tryz.f171, Go.Proofs.Tryz.f171.body.getD .skip, Go.Proofs.Tryz.func171, by kernel_rfl, by kernel_rfl, by kernel_rfl, by kernel_rfl, by kernel_rfl⟩⟩
theorem t172 : FnIs Go.Proofs.Tryz.prog lay 172 g172 := ⟨⟨Go.Proofs.Tryz.f172, Go.Proofs.Tryz.f172.body.getD .skip, Go.Proofs.Tryz.func172, by kernel_rfl, by kernel_rfl, by kernel_rfl, by kernel_rfl, by kernel_rfl⟩⟩
theorem fnsOk : ∀ f d, tbl f = some d → FnIs Go.Proofs.Tryz.prog lay f d := by
  have this : ∀ p ∈ tblL, FnIs Go.Proofs.Tryz.prog lay p.1 p.2 := by
    simp only [tblL, List.forall_mem_cons]
    exact ⟨t3, t4, t5, t6, t7, t8, t9, t10, t11, t12, t13, t14, t15, t16, t17, t18, t19, t20, t21, t22, t23, t24, t25, t26, t27, t28, t29, t30, t31, t32, t33, t34, t35, t36, t37, t38, t39, t40, t41, t42, t43, t44, t45, t46, t47, t48, t49, t50, t51, t52, t53, t54, t55, t56, t57, t58, t59, t60, t61, t62, t63, t64, t65, t66, t67, t68, t69, t70, t71, t72, t73, t74, t75, t76, t77, t78, t79, t80, t81, t82, t83, t84, t85, t86, t87, t88, t89, t90, t91, t92, t93, t94, t95, t96, t97, t98, t99, t100, t101, t102, t103, t104, t105, t106, t107, t108, t109, t110, t111, t112, t113, t114, t115, t116, t117, t118, t119, t120, t121, t122, t123, t124, t125, t126, t127, t128, t129, t130, t131, t132, t133, t134, t135, t136, t137, t138, t139, t140, t141, t142, t143, t144, t145, t146, t147, t148, t149, t150, t151, t152, t153, t154, t155, t156, t157, t158, t159, t160, t161, t162, t163, t164, t165, t166, t167, t168, t169, t170, t171, t172, fun p hp => by cases hp⟩
  exact fun f d h => this (f, d) (lk_mem h)
end Ve

/- slices.Clone: what its steps need. -/
namespace Ve
open Go
theorem run_build0 {P : Program} (w : World) (t e : TypeId) (i : TypeInfo) (ht : P.underlying t = some (.slice e)) (hi : P.info? e = some i) :
    (Instr.buildSlice t 0 #[]).run P w = .ok (.slice (some { block := w.heap.size, off := 0 }) 0 0) (w.alloc (.cells #[] e)) := by
  simp [Instr.buildSlice, run_underlying ht, Go.sizeOf, typeInfo, hi, Instr.fill, newRow, show Array.range 0 = #[] from rfl]
theorem rangeAt_alloc {w : World} {b off : Nat} {ys : List Value} {o : Go.Obj} (h : w.rangeAt b off ys) : (w.alloc o).rangeAt b off ys := by
  by_cases hb : b < w.heap.size
  · exact rangeAt_block ((Later.alloc w o).2 b hb) h
  · cases ys with
    | nil => intro j u hj; simp at hj
    | cons y ys =>
      have := h 0 y rfl
      simp [World.cell?, Array.getElem?_eq_none (Nat.le_of_not_lt hb)] at this
theorem clone_tail {P : Program} {L : Lay} (hL : LayOk P L) {t el : TypeId} {ei : TI} (hei : L el = some ei) (hu : P.underlying t = some (.slice el)) (w : World) {ad : Addr} {m c : Nat} {news : List Value}
    (hone : Ones news) (hlen : news.length = m * ei.size) (hx : (m = 0 ∧ ∃ ad' c', Value.slice (some ad) m c = .slice ad' 0 c') ∨ ∃ b off c', Value.slice (some ad) m c = .slice (some ⟨b, off, none⟩) m c' ∧ w.rangeAt b off news ∧ m ≤ c')
    (hb : m * ei.bytes ≤ 140737488355328) (hm : m ≤ maxLen) (hpos : 0 < ei.size) : ∃ v' w', (Builtin.append_ #[t, t] t #[.slice (some { block := w.heap.size, off := 0 }) 0 0, .slice (some ad) m c]).run P (w.alloc (.cells #[] el)) = .ok v' w' ∧
      (Later w w' ∧ ((m = 0 ∧ ∃ ad, v' = .slice ad 0 0) ∨ ∃ b cap', v' = .slice (some ⟨b, 0, none⟩) m cap' ∧ RowAt w' b ei.size m cap' news ∧ w.heap.size ≤ b ∧ b < w'.heap.size)) := by
  have hrow : RowAt (w.alloc (.cells #[] el)) w.heap.size ei.size 0 0 [] := ⟨⟨#[], el, heap_alloc_new _ _, by simp, by simp⟩, Nat.le_refl _, Nat.zero_le _, hpos, (by intro y hy; simp at hy), by simp⟩
  have hx2 : (m = 0 ∧ ∃ ad' c', Value.slice (some ad) m c = .slice ad' 0 c') ∨ ∃ b off c', Value.slice (some ad) m c = .slice (some ⟨b, off, none⟩) m c' ∧ (w.alloc (.cells #[] el)).rangeAt b off news := by
    rcases hx with h | ⟨b, off, c', h1, h2, _⟩
    · exact .inl h
    · exact .inr ⟨b, off, c', h1, rangeAt_alloc h2⟩
  have hw := append_ways hL hei hu t (w := w.alloc (.cells #[] el)) (dv := .slice (some ⟨w.heap.size, 0, none⟩) 0 0) (n := 0) (cap := 0) (ys := []) (g := some w.heap.size) (.inr ⟨_, rfl, rfl, hrow⟩) (xv := .slice (some ad) m c) (m := m) (news := news) hone hlen hx2 (by simpa using hb) (by simpa using hm)
  obtain ⟨v', w', hr, hv⟩ := hw
  refine ⟨v', w', hr, ?_⟩
  rcases hv with ⟨h0, ⟨a0, rfl⟩, rfl⟩ | ⟨b, hb, rfl, h1, h2, h3, h4, h5, h6⟩ | ⟨cap', rfl, h1, h2, h3⟩
  · exact ⟨Later.alloc _ _, .inl ⟨by omega, _, rfl⟩⟩
  · cases hb
    have hm0 : m = 0 := by have := h1.le; omega
    subst hm0
    refine ⟨⟨by simp [h3], fun b hb => ?_, by rw [h4]; rfl, by rw [h5]; rfl, by rw [h6]; rfl⟩, .inl ⟨rfl, _, rfl⟩⟩
    rw [h2 b (by omega)]; exact (Later.alloc w _).2 b hb
  · simp only [Nat.zero_add, List.nil_append] at h1 ⊢
    exact ⟨(Later.alloc _ _).trans h2, .inr ⟨_, _, rfl, h1, by simp, h3⟩⟩
theorem len_of {m b : Nat} (h : m * b ≤ 140737488355328) (hb : 0 < b) : m ≤ maxLen := by
  have : m * 1 ≤ m * b := Nat.mul_le_mul_left _ hb
  simp only [maxLen]; omega
theorem wpList_four {P : Program} {w : World} {ops : Array Oper} {Q : Exit → Act → World → Prop} {x0 x2 x3 x4 u1 u5 u6 u7 s : Value} {t ty1 ty2 ty3 ty4 : TypeId} {p1 p2 p3 p4 : String} {a1 a2 a3 a4 : Array _}
    {v' : Value} {w' w1 : World} (hb : (Instr.buildSlice t 0 #[]).run P w = .ok s w1) (hr : (Builtin.append_ #[t, t] ty3 #[s, x0]).run P w1 = .ok v' w')
    (h : wpList P ops Q [] ⟨#[x0, u1, v', x3, x4, s, x0, v'], []⟩ w') : wpList P ops Q [{ dst := some 5, op := .buildSlice t 0 #[], type := ty1, pos := p1, after := a1, guard := none }, { dst := some 6, op := .move (.tmp 0), type := ty2, pos := p2, after := a2, guard := none },
      { dst := some 7, op := .call { callee := .builtin .append, args := #[.tmp 5, .tmp 6], argTypes := #[t, t] }, type := ty3, pos := p3, after := a3, guard := none }, { dst := some 2, op := .assign (.tmp 7), type := ty4, pos := p4, after := a4, guard := none }] ⟨#[x0, u1, x2, x3, x4, u5, u6, u7], []⟩ w := by
  refine wpList_plain rfl fun K hK => ?_
  unfold Oper.wp execOp
  simp only [List.map_toArray, List.map_nil, hb, Sem.run_bind, Sem.run_pure, Result.andThen_ok]
  refine hK _ _ (wpList_plain rfl fun K hK => ?_)
  unfold Oper.wp execOp
  simp only [Sem.run_pure]
  refine hK _ _ (wpList_plain rfl fun K hK => ?_)
  unfold Oper.wp execOp
  simp only [resolve, invoke, builtin, Sem.run_bind, Sem.run_pure, Result.andThen_ok, List.map_toArray, List.map_cons, List.map_nil, Act.put, Act.eval]
  change Oper.upon P _ _ K Q ((Sem.run P (Builtin.append_ #[t, t] ty3 #[s, x0]) w1).andThen _)
  rw [hr]
  refine hK _ _ (wpList_plain rfl fun K hK => ?_)
  unfold Oper.wp execOp
  simp only [Sem.run_pure]
  exact hK _ _ h
end Ve

/- Each copy of slices.Clone answers with a copy. -/
namespace Ve
open Go
set_option maxRecDepth 100000
theorem cl72 {L : Lay} (hL : LayOk Go.Proofs.Tryz.prog L) {ei : TI} (hei : L 52 = some ei) (hby : 0 < ei.bytes) (i : TypeInfo) (hi : Go.Proofs.Tryz.prog.info? 52 = some i) : CloneAt Go.Proofs.Tryz.prog 72 ei.size ei.bytes := by
  have q25 : ∀ (w : World) (a : Option Addr) (n c n' c' : Nat), (binOp .eql 25 (.slice a n c) (.slice none n' c')).run Go.Proofs.Tryz.prog w = .ok (.bool a.isNone) w := fun w a n c n' c' => Lib.run_eql_slice_nil w _ _ a n c n' c' Go.Proofs.Tryz.underlying25
  have qb := fun w => run_build0 (P := Go.Proofs.Tryz.prog) w 25 52 i Go.Proofs.Tryz.underlying25 hi
  intro w xv m news hone hlen hx hb hpos
  have hxs : ∃ a c, xv = .slice a m c ∧ (a = none → m = 0) := by
    rcases hx with ⟨rfl, ad, c, rfl⟩ | ⟨b, off, c, rfl, _, _⟩
    · exact ⟨ad, c, rfl, fun _ => rfl⟩
    · exact ⟨_, _, rfl, by simp⟩
  obtain ⟨a, c, rfl, ha⟩ := hxs
  cases a with
  | none =>
    have := ha rfl; subst this
    go_enter Go.Proofs.Tryz.func72, Go.Proofs.Tryz.ntmps72
    go_wp2
    go_ret
    exact ⟨Later.refl _, .inl ⟨_, rfl⟩⟩
  | some ad =>
    obtain ⟨v', w', hr, hv⟩ := clone_tail hL hei Go.Proofs.Tryz.underlying25 w hone hlen hx hb (len_of hb hby) hpos
    go_enter Go.Proofs.Tryz.func72, Go.Proofs.Tryz.ntmps72
    clear hx hone hlen hb hL hei hby hi ha
    go_wp2_with (refine wpList_four (qb _) hr ?_)
    go_ret
    exact hv
theorem clo72 : CloneAt Go.Proofs.Tryz.prog 72 17 184 := cl72 layOk (ei := y52) rfl (by decide) ((Go.Proofs.Tryz.prog.info? 52).get (by kernel_rfl)) (Option.some_get _).symm
theorem cl73 {L : Lay} (hL : LayOk Go.Proofs.Tryz.prog L) {ei : TI} (hei : L 55 = some ei) (hby : 0 < ei.bytes) (i : TypeInfo) (hi : Go.Proofs.Tryz.prog.info? 55 = some i) : CloneAt Go.Proofs.Tryz.prog 73 ei.size ei.bytes := by
  have q26 : ∀ (w : World) (a : Option Addr) (n c n' c' : Nat), (binOp .eql 26 (.slice a n c) (.slice none n' c')).run Go.Proofs.Tryz.prog w = .ok (.bool a.isNone) w := fun w a n c n' c' => Lib.run_eql_slice_nil w _ _ a n c n' c' Go.Proofs.Tryz.underlying26
  have qb := fun w => run_build0 (P := Go.Proofs.Tryz.prog) w 26 55 i Go.Proofs.Tryz.underlying26 hi
  intro w xv m news hone hlen hx hb hpos
  have hxs : ∃ a c, xv = .slice a m c ∧ (a = none → m = 0) := by
    rcases hx with ⟨rfl, ad, c, rfl⟩ | ⟨b, off, c, rfl, _, _⟩
    · exact ⟨ad, c, rfl, fun _ => rfl⟩
    · exact ⟨_, _, rfl, by simp⟩
  obtain ⟨a, c, rfl, ha⟩ := hxs
  cases a with
  | none =>
    have := ha rfl; subst this
    go_enter Go.Proofs.Tryz.func73, Go.Proofs.Tryz.ntmps73
    go_wp2
    go_ret
    exact ⟨Later.refl _, .inl ⟨_, rfl⟩⟩
  | some ad =>
    obtain ⟨v', w', hr, hv⟩ := clone_tail hL hei Go.Proofs.Tryz.underlying26 w hone hlen hx hb (len_of hb hby) hpos
    go_enter Go.Proofs.Tryz.func73, Go.Proofs.Tryz.ntmps73
    clear hx hone hlen hb hL hei hby hi ha
    go_wp2_with (refine wpList_four (qb _) hr ?_)
    go_ret
    exact hv
theorem clo73 : CloneAt Go.Proofs.Tryz.prog 73 4 32 := cl73 layOk (ei := y55) rfl (by decide) ((Go.Proofs.Tryz.prog.info? 55).get (by kernel_rfl)) (Option.some_get _).symm
theorem cl112 {L : Lay} (hL : LayOk Go.Proofs.Tryz.prog L) {ei : TI} (hei : L 65 = some ei) (hby : 0 < ei.bytes) (i : TypeInfo) (hi : Go.Proofs.Tryz.prog.info? 65 = some i) : CloneAt Go.Proofs.Tryz.prog 112 ei.size ei.bytes := by
  have q22 : ∀ (w : World) (a : Option Addr) (n c n' c' : Nat), (binOp .eql 22 (.slice a n c) (.slice none n' c')).run Go.Proofs.Tryz.prog w = .ok (.bool a.isNone) w := fun w a n c n' c' => Lib.run_eql_slice_nil w _ _ a n c n' c' Go.Proofs.Tryz.underlying22
  have qb := fun w => run_build0 (P := Go.Proofs.Tryz.prog) w 22 65 i Go.Proofs.Tryz.underlying22 hi
  intro w xv m news hone hlen hx hb hpos
  have hxs : ∃ a c, xv = .slice a m c ∧ (a = none → m = 0) := by
    rcases hx with ⟨rfl, ad, c, rfl⟩ | ⟨b, off, c, rfl, _, _⟩
    · exact ⟨ad, c, rfl, fun _ => rfl⟩
    · exact ⟨_, _, rfl, by simp⟩
  obtain ⟨a, c, rfl, ha⟩ := hxs
  cases a with
  | none =>
    have := ha rfl; subst this
    go_enter Go.Proofs.Tryz.func112, Go.Proofs.Tryz.ntmps112
    go_wp2
    go_ret
    exact ⟨Later.refl _, .inl ⟨_, rfl⟩⟩
  | some ad =>
    obtain ⟨v', w', hr, hv⟩ := clone_tail hL hei Go.Proofs.Tryz.underlying22 w hone hlen hx hb (len_of hb hby) hpos
    go_enter Go.Proofs.Tryz.func112, Go.Proofs.Tryz.ntmps112
    clear hx hone hlen hb hL hei hby hi ha
    go_wp2_with (refine wpList_four (qb _) hr ?_)
    go_ret
    exact hv
theorem clo112 : CloneAt Go.Proofs.Tryz.prog 112 3 24 := cl112 layOk (ei := y65) rfl (by decide) ((Go.Proofs.Tryz.prog.info? 65).get (by kernel_rfl)) (Option.some_get _).symm
theorem cl113 {L : Lay} (hL : LayOk Go.Proofs.Tryz.prog L) {ei : TI} (hei : L 69 = some ei) (hby : 0 < ei.bytes) (i : TypeInfo) (hi : Go.Proofs.Tryz.prog.info? 69 = some i) : CloneAt Go.Proofs.Tryz.prog 113 ei.size ei.bytes := by
  have q48 : ∀ (w : World) (a : Option Addr) (n c n' c' : Nat), (binOp .eql 48 (.slice a n c) (.slice none n' c')).run Go.Proofs.Tryz.prog w = .ok (.bool a.isNone) w := fun w a n c n' c' => Lib.run_eql_slice_nil w _ _ a n c n' c' Go.Proofs.Tryz.underlying48
  have qb := fun w => run_build0 (P := Go.Proofs.Tryz.prog) w 48 69 i Go.Proofs.Tryz.underlying48 hi
  intro w xv m news hone hlen hx hb hpos
  have hxs : ∃ a c, xv = .slice a m c ∧ (a = none → m = 0) := by
    rcases hx with ⟨rfl, ad, c, rfl⟩ | ⟨b, off, c, rfl, _, _⟩
    · exact ⟨ad, c, rfl, fun _ => rfl⟩
    · exact ⟨_, _, rfl, by simp⟩
  obtain ⟨a, c, rfl, ha⟩ := hxs
  cases a with
  | none =>
    have := ha rfl; subst this
    go_enter Go.Proofs.Tryz.func113, Go.Proofs.Tryz.ntmps113
    go_wp2
    go_ret
    exact ⟨Later.refl _, .inl ⟨_, rfl⟩⟩
  | some ad =>
    obtain ⟨v', w', hr, hv⟩ := clone_tail hL hei Go.Proofs.Tryz.underlying48 w hone hlen hx hb (len_of hb hby) hpos
    go_enter Go.Proofs.Tryz.func113, Go.Proofs.Tryz.ntmps113
    clear hx hone hlen hb hL hei hby hi ha
    go_wp2_with (refine wpList_four (qb _) hr ?_)
    go_ret
    exact hv
theorem clo113 : CloneAt Go.Proofs.Tryz.prog 113 4 32 := cl113 layOk (ei := y69) rfl (by decide) ((Go.Proofs.Tryz.prog.info? 69).get (by kernel_rfl)) (Option.some_get _).symm
theorem cl114 {L : Lay} (hL : LayOk Go.Proofs.Tryz.prog L) {ei : TI} (hei : L 113 = some ei) (hby : 0 < ei.bytes) (i : TypeInfo) (hi : Go.Proofs.Tryz.prog.info? 113 = some i) : CloneAt Go.Proofs.Tryz.prog 114 ei.size ei.bytes := by
  have q49 : ∀ (w : World) (a : Option Addr) (n c n' c' : Nat), (binOp .eql 49 (.slice a n c) (.slice none n' c')).run Go.Proofs.Tryz.prog w = .ok (.bool a.isNone) w := fun w a n c n' c' => Lib.run_eql_slice_nil w _ _ a n c n' c' Go.Proofs.Tryz.underlying49
  have qb := fun w => run_build0 (P := Go.Proofs.Tryz.prog) w 49 113 i Go.Proofs.Tryz.underlying49 hi
  intro w xv m news hone hlen hx hb hpos
  have hxs : ∃ a c, xv = .slice a m c ∧ (a = none → m = 0) := by
    rcases hx with ⟨rfl, ad, c, rfl⟩ | ⟨b, off, c, rfl, _, _⟩
    · exact ⟨ad, c, rfl, fun _ => rfl⟩
    · exact ⟨_, _, rfl, by simp⟩
  obtain ⟨a, c, rfl, ha⟩ := hxs
  cases a with
  | none =>
    have := ha rfl; subst this
    go_enter Go.Proofs.Tryz.func114, Go.Proofs.Tryz.ntmps114
    go_wp2
    go_ret
    exact ⟨Later.refl _, .inl ⟨_, rfl⟩⟩
  | some ad =>
    obtain ⟨v', w', hr, hv⟩ := clone_tail hL hei Go.Proofs.Tryz.underlying49 w hone hlen hx hb (len_of hb hby) hpos
    go_enter Go.Proofs.Tryz.func114, Go.Proofs.Tryz.ntmps114
    clear hx hone hlen hb hL hei hby hi ha
    go_wp2_with (refine wpList_four (qb _) hr ?_)
    go_ret
    exact hv
theorem clo114 : CloneAt Go.Proofs.Tryz.prog 114 3 24 := cl114 layOk (ei := y113) rfl (by decide) ((Go.Proofs.Tryz.prog.info? 113).get (by kernel_rfl)) (Option.some_get _).symm
theorem cl115 {L : Lay} (hL : LayOk Go.Proofs.Tryz.prog L) {ei : TI} (hei : L 63 = some ei) (hby : 0 < ei.bytes) (i : TypeInfo) (hi : Go.Proofs.Tryz.prog.info? 63 = some i) : CloneAt Go.Proofs.Tryz.prog 115 ei.size ei.bytes := by
  have q50 : ∀ (w : World) (a : Option Addr) (n c n' c' : Nat), (binOp .eql 50 (.slice a n c) (.slice none n' c')).run Go.Proofs.Tryz.prog w = .ok (.bool a.isNone) w := fun w a n c n' c' => Lib.run_eql_slice_nil w _ _ a n c n' c' Go.Proofs.Tryz.underlying50
  have qb := fun w => run_build0 (P := Go.Proofs.Tryz.prog) w 50 63 i Go.Proofs.Tryz.underlying50 hi
  intro w xv m news hone hlen hx hb hpos
  have hxs : ∃ a c, xv = .slice a m c ∧ (a = none → m = 0) := by
    rcases hx with ⟨rfl, ad, c, rfl⟩ | ⟨b, off, c, rfl, _, _⟩
    · exact ⟨ad, c, rfl, fun _ => rfl⟩
    · exact ⟨_, _, rfl, by simp⟩
  obtain ⟨a, c, rfl, ha⟩ := hxs
  cases a with
  | none =>
    have := ha rfl; subst this
    go_enter Go.Proofs.Tryz.func115, Go.Proofs.Tryz.ntmps115
    go_wp2
    go_ret
    exact ⟨Later.refl _, .inl ⟨_, rfl⟩⟩
  | some ad =>
    obtain ⟨v', w', hr, hv⟩ := clone_tail hL hei Go.Proofs.Tryz.underlying50 w hone hlen hx hb (len_of hb hby) hpos
    go_enter Go.Proofs.Tryz.func115, Go.Proofs.Tryz.ntmps115
    clear hx hone hlen hb hL hei hby hi ha
    go_wp2_with (refine wpList_four (qb _) hr ?_)
    go_ret
    exact hv
theorem clo115 : CloneAt Go.Proofs.Tryz.prog 115 3 24 := cl115 layOk (ei := y63) rfl (by decide) ((Go.Proofs.Tryz.prog.info? 63).get (by kernel_rfl)) (Option.some_get _).symm
def ClP (p : Nat × IFn) : Prop := ∀ sz bytes, p.2.clone = some (sz, bytes) → CloneAt Go.Proofs.Tryz.prog p.1 sz bytes
theorem cloneOk : CloneOk Go.Proofs.Tryz.prog tbl := by
  have this : ∀ p ∈ tblL, ClP p := by
    simp only [tblL, List.forall_mem_cons]
    exact ⟨(fun _ _ h => by cases h), (fun _ _ h => by cases h), (fun _ _ h => by cases h), (fun _ _ h => by cases h), (fun _ _ h => by cases h), (fun _ _ h => by cases h), (fun _ _ h => by cases h), (fun _ _ h => by cases h), (fun _ _ h => by cases h), (fun _ _ h => by cases h), (fun _ _ h => by cases h), (fun _ _ h => by cases h), (fun _ _ h => by cases h), (fun _ _ h => by cases h), (fun _ _ h => by cases h), (fun _ _ h => by cases h), (fun _ _ h => by cases h), (fun _ _ h => by cases h), (fun _ _ h => by cases h), (fun _ _ h => by cases h), (fun _ _ h => by cases h), (fun _ _ h => by cases h), (fun _ _ h => by cases h), (fun _ _ h => by cases h), (fun _ _ h => by cases h), (fun _ _ h => by cases h), (fun _ _ h => by cases h), (fun _ _ h => by cases h), (fun _ _ h => by cases h), (fun _ _ h => by cases h), (fun _ _ h => by cases h), (fun _ _ h => by cases h), (fun _ _ h => by cases h), (fun _ _ h => by cases h), (fun _ _ h => by cases h), (fun _ _ h => by cases h), (fun _ _ h => by cases h), (fun _ _ h => by cases h), (fun _ _ h => by cases h), (fun _ _ h => by cases h), (fun _ _ h => by cases h), (fun _ _ h => by cases h), (fun _ _ h => by cases h), (fun _ _ h => by cases h), (fun _ _ h => by cases h), (fun _ _ h => by cases h), (fun _ _ h => by cases h), (fun _ _ h => by cases h), (fun _ _ h => by cases h), (fun _ _ h => by cases h), (fun _ _ h => by cases h), (fun _ _ h => by cases h), (fun _ _ h => by cases h), (fun _ _ h => by cases h), (fun _ _ h => by cases h), (fun _ _ h => by cases h), (fun _ _ h => by cases h), (fun _ _ h => by cases h), (fun _ _ h => by cases h), (fun _ _ h => by cases h), (fun _ _ h => by cases h), (fun _ _ h => by cases h), (fun _ _ h => by cases h), (fun _ _ h => by cases h), (fun _ _ h => by cases h), (fun _ _ h => by cases h), (fun _ _ h => by cases h), (fun _ _ h => by cases h), (fun _ _ h => by cases h), (fun _ _ h => by cases h; exact clo72), (fun _ _ h => by cases h; exact clo73), (fun _ _ h => by cases h), (fun _ _ h => by cases h), (fun _ _ h => by cases h), (fun _ _ h => by cases h), (fun _ _ h => by cases h), (fun _ _ h => by cases h), (fun _ _ h => by cases h), (fun _ _ h => by cases h), (fun _ _ h => by cases h), (fun _ _ h => by cases h), (fun _ _ h => by cases h), (fun _ _ h => by cases h), (fun _ _ h => by cases h), (fun _ _ h => by cases h), (fun _ _ h => by cases h), (fun _ _ h => by cases h), (fun _ _ h => by cases h), (fun _ _ h => by cases h), (fun _ _ h => by cases h), (fun _ _ h => by cases h), (fun _ _ h => by cases h), (fun _ _ h => by cases h), (fun _ _ h => by cases h), (fun _ _ h => by cases h), (fun _ _ h => by cases h), (fun _ _ h => by cases h), (fun _ _ h => by cases h), (fun _ _ h => by cases h), (fun _ _ h => by cases h), (fun _ _ h => by cases h), (fun _ _ h => by cases h), (fun _ _ h => by cases h), (fun _ _ h => by cases h), (fun _ _ h => by cases h), (fun _ _ h => by cases h), (fun _ _ h => by cases h), (fun _ _ h => by cases h), (fun _ _ h => by cases h), (fun _ _ h => by cases h; exact clo112), (fun _ _ h => by cases h; exact clo113), (fun _ _ h => by cases h; exact clo114), (fun _ _ h => by cases h; exact clo115), (fun _ _ h => by cases h), (fun _ _ h => by cases h), (fun _ _ h => by cases h), (fun _ _ h => by cases h), (fun _ _ h => by cases h), (fun _ _ h => by cases h), (fun _ _ h => by cases h), (fun _ _ h => by cases h), (fun _ _ h => by cases h), (fun _ _ h => by cases h), (fun _ _ h => by cases h), (fun _ _ h => by cases h), (fun _ _ h => by cases h), (fun _ _ h => by cases h), (fun _ _ h => by cases h), (fun _ _ h => by cases h), (fun _ _ h => by cases h), (fun _ _ h => by cases h), (fun _ _ h => by cases h), (fun _ _ h => by cases h), (fun _ _ h => by cases h), (fun _ _ h => by cases h), (fun _ _ h => by cases h), (fun _ _ h => by cases h), (fun _ _ h => by cases h), (fun _ _ h => by cases h), (fun _ _ h => by cases h), (fun _ _ h => by cases h), (fun _ _ h => by cases h), (fun _ _ h => by cases h), (fun _ _ h => by cases h), (fun _ _ h => by cases h), (fun _ _ h => by cases h), (fun _ _ h => by cases h), (fun _ _ h => by cases h), (fun _ _ h => by cases h), (fun _ _ h => by cases h), (fun _ _ h => by cases h), (fun _ _ h => by cases h), (fun _ _ h => by cases h), (fun _ _ h => by cases h), (fun _ _ h => by cases h), (fun _ _ h => by cases h), (fun _ _ h => by cases h), (fun _ _ h => by cases h), (fun _ _ h => by cases h), (fun _ _ h => by cases h), (fun _ _ h => by cases h), (fun _ _ h => by cases h), (fun _ _ h => by cases h), (fun _ _ h => by cases h), (fun _ _ h => by cases h), (fun _ _ h => by cases h), (fun _ _ h => by cases h), (fun _ _ h => by cases h), (fun _ _ h => by cases h), (fun _ _ h => by cases h), fun p hp => by cases hp⟩
  exact fun f d sz bytes h hc => this (f, d) (lk_mem h) sz bytes hc
theorem tieOk : Tie Go.Proofs.Tryz.prog ctx := ⟨layOk, by kernel_rfl, cloneOk, fnsOk⟩
end Ve
