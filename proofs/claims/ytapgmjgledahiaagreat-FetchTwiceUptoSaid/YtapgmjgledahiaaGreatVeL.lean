/- What a program's types must be for the evaluator: lemmas. -/
import Derived.Test.YtapgmjgledahiaaGreatVeC
import Derived.Laws.StructEq
import Derived.ChangeKeysEq
import Derived.Test.YtapgmjgledahiaaGreatVeT
import Derived.Test.YtapgmjgledahiaaGreatProg
import Derived.KernelRfl
import Derived.Test.YtapgmjgledahiaaGreatVeM
import Derived.WalkKit
import Derived.ProofKit
import Derived.Lib.SliceRun
set_option linter.all false
set_option linter.unusedSectionVars false
namespace Ve
open Go
theorem str_of {P : Program} : ∀ {fields : List Field} {fs : List (Nat × Nat)}, fields.mapM (fun f => (P.info? f.type).map fun i => (f.offset, i.size)) = some fs → (fs.all fun p => p.2 != 0) = true →
    ∀ (j : Nat) (p : Nat × Nat), fs[j]? = some p → ∃ f : Field, fields[j]? = some f ∧ f.offset = p.1 ∧ (∃ i, P.info? f.type = some i ∧ i.size = p.2) ∧ p.2 ≠ 0
  | [], fs, h, hz, j, p, hj => by simp at h; subst h; simp at hj
  | f :: fields, fs, h, hz, j, p, hj => by
    simp only [List.mapM_cons, Option.bind_eq_bind, Option.bind_eq_some_iff, Option.map_eq_some_iff] at h
    obtain ⟨q, ⟨i, hi, rfl⟩, r, hr, h⟩ := h
    simp only [Option.pure_def, Option.some.injEq] at h
    subst h
    simp only [List.all_cons, Bool.and_eq_true] at hz
    cases j with
    | zero => simp at hj; subst hj; exact ⟨f, rfl, rfl, ⟨i, hi, rfl⟩, by simpa using hz.1⟩
    | succ j => simpa using str_of hr hz.2 j p (by simpa using hj)
theorem fty_of {P : Program} {t : TypeId} {ft : List TypeId} {fields0 : Array Field} (h0 : P.underlying t = some (.struct fields0)) (h1 : fields0.toList.map (·.type) = ft) :
    ∀ fields, P.underlying t = some (.struct fields) → ∀ (j : Nat) (u : TypeId), ft[j]? = some u → ∃ f : Field, fields[j]? = some f ∧ f.type = u := by
  intro fields hf j u hj
  rw [h0] at hf
  cases hf
  subst h1
  rw [List.getElem?_map, Option.map_eq_some_iff] at hj
  obtain ⟨f, hf, rfl⟩ := hj
  exact ⟨f, by simpa using hf, rfl⟩
theorem eqc_inv {a b : Value} {xs ys : List Value} {r : Bool} (h : eqCells (V.lit a :: xs.map V.lit) (V.lit b :: ys.map V.lit) = some r) :
    ∃ k x y z, a = .int k x ∧ b = .int k y ∧ eqCells (xs.map V.lit) (ys.map V.lit) = some z ∧ r = (decide (x = y) && z) := by
  simp only [eqCells] at h
  split at h
  · rename_i x z hx hz
    simp only [Option.some.injEq] at h
    unfold cellEq at hx
    split at hx
    · rename_i e1 e2
      cases e1; cases e2
      split at hx
      · rename_i hk; subst hk
        simp only [Option.some.injEq] at hx
        exact ⟨_, _, _, z, rfl, rfl, hz, by rw [← h, ← hx]⟩
      · cases hx
    · cases hx
  · cases h
theorem eqc_cons {xs ys : List Value} {r : Bool} (h : eqCells (xs.map V.lit) (ys.map V.lit) = some r) (hl : 0 < xs.length) :
    ∃ k x y z xs' ys', xs = .int k x :: xs' ∧ ys = .int k y :: ys' ∧ eqCells (xs'.map V.lit) (ys'.map V.lit) = some z ∧ r = (decide (x = y) && z) := by
  cases xs with
  | nil => simp at hl
  | cons a xs =>
    cases ys with
    | nil => simp [eqCells] at h
    | cons b ys =>
      obtain ⟨k, x, y, z, rfl, rfl, hz, hr⟩ := eqc_inv h
      exact ⟨k, x, y, z, xs, ys, rfl, rfl, hz, hr⟩
theorem run_part_int {P : Program} (w : World) {t : TypeId} {k : IntKind} (ht : P.underlying t = some (.int k)) {xs : Array Value} {off : Nat} {v : Value} (hx : xs[off]? = some v) : (part t xs off).run P w = .ok v w := by
  simp [part, isAgg, run_underlying ht, hx]
/-- a struct of integers, one behind another -/
def intFields (P : Program) : Nat → List Field → Bool
  | _, [] => true
  | j, f :: r => (f.name != "_") && (f.offset == j) && (match P.underlying f.type with | some (.int _) => true | _ => false) && intFields P (j + 1) r
theorem eqFields_ok {P : Program} (w : World) (d : Nat) : ∀ (fs : List Field) (px py xs ys : List Value) (r : Bool), px.length = py.length → intFields P px.length fs = true → xs.length = fs.length → eqCells (xs.map V.lit) (ys.map V.lit) = some r →
    (Op.eqFields (d + 1) (px ++ xs).toArray (py ++ ys).toArray fs).run P w = .ok r w
  | [], px, py, xs, ys, r, hp, hf, hl, h => by
    have : xs = [] := by simpa using hl
    subst this
    cases ys with
    | nil => simp [eqCells] at h; subst h; simp [Op.eqFields]
    | cons b ys => simp [eqCells] at h
  | f :: fs, px, py, xs, ys, r, hp, hf, hl, h => by
    obtain ⟨k, x, y, z, xs', ys', rfl, rfl, hz, rfl⟩ := eqc_cons h (by simp at hl; omega)
    simp only [intFields, Bool.and_eq_true, bne_iff_ne, ne_eq, beq_iff_eq] at hf
    obtain ⟨⟨⟨h1, h2⟩, h3⟩, h4⟩ := hf
    cases hu : P.underlying f.type with
    | none => simp [hu] at h3
    | some dd =>
      cases dd <;> simp [hu] at h3
      rename_i kk
      have ih := eqFields_ok w d fs (px ++ [.int k x]) (py ++ [.int k y]) xs' ys' z (by simp [hp]) (by simpa using h4) (by simpa using hl) hz
      have e1 : (px ++ Value.int k x :: xs').toArray[f.offset]? = some (.int k x) := by simp [h2]
      have e2 : (py ++ Value.int k y :: ys').toArray[f.offset]? = some (.int k y) := by simp [h2, hp]
      simp only [Op.eqFields, ne_eq, h1, not_false_eq_true, if_true, Sem.run_bind, run_part_int w hu e1, run_part_int w hu e2, Result.andThen_ok, run_equalIn_int w d f.type k kk x y hu]
      by_cases hxy : x = y
      · subst hxy
        simp only [beq_self_eq_true, Bool.not_true, Bool.false_eq_true, if_false, decide_true, Bool.true_and]
        simpa using ih
      · simp [hxy]
theorem eqItems_ok {P : Program} (w : World) (d : Nat) {e : TypeId} {k0 : IntKind} (he : P.underlying e = some (.int k0)) : ∀ (n j : Nat) (px py xs ys : List Value) (r : Bool), px.length = j → py.length = j → xs.length = n → eqCells (xs.map V.lit) (ys.map V.lit) = some r →
    (Op.eqItems (d + 1) e 1 (px ++ xs).toArray (py ++ ys).toArray (List.range' j n)).run P w = .ok r w
  | 0, j, px, py, xs, ys, r, hp, hp', hl, h => by
    have : xs = [] := by simpa using hl
    subst this
    cases ys with
    | nil => simp [eqCells] at h; subst h; simp [Op.eqItems]
    | cons b ys => simp [eqCells] at h
  | n + 1, j, px, py, xs, ys, r, hp, hp', hl, h => by
    obtain ⟨k, x, y, z, xs', ys', rfl, rfl, hz, rfl⟩ := eqc_cons h (by omega)
    have ih := eqItems_ok w d he n (j + 1) (px ++ [.int k x]) (py ++ [.int k y]) xs' ys' z (by simp [hp]) (by simp [hp']) (by simpa using hl) hz
    have e1 : (px ++ Value.int k x :: xs').toArray[j * 1]? = some (.int k x) := by simp [hp]
    have e2 : (py ++ Value.int k y :: ys').toArray[j * 1]? = some (.int k y) := by simp [hp']
    simp only [List.range'_succ, Op.eqItems, Sem.run_bind, run_part_int w he e1, run_part_int w he e2, Result.andThen_ok, run_equalIn_int w d e k k0 x y he]
    by_cases hxy : x = y
    · subst hxy
      simp only [beq_self_eq_true, Bool.not_true, Bool.false_eq_true, if_false, decide_true, Bool.true_and]
      simpa using ih
    · simp [hxy]
abbrev PlainAt (P : Program) (t : TypeId) (size : Nat) : Prop := ∀ (xs ys : List Value) (r : Bool), eqCells (xs.map V.lit) (ys.map V.lit) = some r → xs.length = size → ∀ (x y : Operand) (w : World),
    ((do eqGuard .eql t x y (.agg xs.toArray) (.agg ys.toArray); binOp .eql t (.agg xs.toArray) (.agg ys.toArray) : Sem Value)).run P w = .ok (.bool r) w ∧
    ((do eqGuard .neq t x y (.agg xs.toArray) (.agg ys.toArray); binOp .neq t (.agg xs.toArray) (.agg ys.toArray) : Sem Value)).run P w = .ok (.bool (!r)) w
theorem plain_of {P : Program} {t : TypeId} {size : Nat} (hm : P.eqGuardType P.depth t = false) (h : ∀ (xs ys : List Value) (r : Bool), eqCells (xs.map V.lit) (ys.map V.lit) = some r → xs.length = size → ∀ w, (Op.equalIn 10000 t (.agg xs.toArray) (.agg ys.toArray)).run P w = .ok r w) : PlainAt P t size := by
  intro xs ys r he hl x y w
  have := h xs ys r he hl w
  constructor
  · simp only [Sem.run_bind, run_eqGuard_agg w _ t x y _ _ hm, Result.andThen_ok, run_eql_struct, this]
  · simp only [Sem.run_bind, run_eqGuard_agg w _ t x y _ _ hm, Result.andThen_ok, run_neq_struct, this]
theorem plain_struct {P : Program} {t : TypeId} {size : Nat} (hm : P.eqGuardType P.depth t = false) (ht : P.underlying t = some (.struct (P.fieldsOf t))) (hp : P.stoodInHeld t = false) (hf : intFields P 0 (P.fieldsOf t).toList = true) (hl : (P.fieldsOf t).toList.length = size) : PlainAt P t size :=
  plain_of hm fun xs ys r he hs w => by
    rw [show (10000 : Nat) = 9998 + 1 + 1 from rfl, run_equalIn_agg w (9998 + 1) t _ _ ht hp]
    exact eqFields_ok w 9998 _ [] [] xs ys r rfl hf (by omega) he
theorem plain_arr {P : Program} {t e : TypeId} {n : Nat} {k : IntKind} {i : TypeInfo} (hm : P.eqGuardType P.depth t = false) (ht : P.underlying t = some (.array n e)) (hi : P.info? e = some i) (he : P.underlying e = some (.int k)) (hc : P.cellsOf e = 1) : PlainAt P t n :=
  plain_of hm fun xs ys r hq hs w => by
    rw [show (10000 : Nat) = 9998 + 1 + 1 from rfl, run_equalIn_array w (9998 + 1) _ _ ht hi, hc, List.range_eq_range']
    exact eqItems_ok w 9998 he n 0 [] [] xs ys r rfl rfl hs hq
theorem rs_agg0 {E : Env} {m : Md} {cs : List V} {ys : List Value} {vs : List V} {xs : List Value} (h : Rs E m cs ys []) (h' : Rs E m vs xs []) : Rs E m (.agg cs :: vs) (.agg ys.toArray :: xs) [] := Rs.agg h h'
end Ve

/- Each type of the tables is the program's. -/
namespace Ve
open Go
set_option maxRecDepth 10000
theorem ly1 : TiOk Go.Proofs.Tryz.prog lay 1 y1 :=
  ⟨⟨(Go.Proofs.Tryz.prog.info? 1).get (by kernel_rfl), (Option.some_get _).symm, by kernel_rfl, by kernel_rfl, (.nilFunc), by kernel_rfl, (fun E => (.lit .nil))⟩, by decide, by decide, rfl, by decide, rfl, ⟨(Go.Proofs.Tryz.prog.underlying 1).get (by kernel_rfl), (Option.some_get _).symm, by kernel_rfl⟩,
   (fun fs h => by cases h), (fun n el h => by cases h), (fun fs h => by cases h), (fun el h => by cases h), (fun k h => by cases h), (fun h => by cases h), (fun h => by cases h)⟩
theorem ly2 : TiOk Go.Proofs.Tryz.prog lay 2 y2 :=
  ⟨⟨(Go.Proofs.Tryz.prog.info? 2).get (by kernel_rfl), (Option.some_get _).symm, by kernel_rfl, by kernel_rfl, (.int .i64 0), by kernel_rfl, (fun E => (.lit .nil))⟩, by decide, by decide, rfl, by decide, rfl, ⟨(Go.Proofs.Tryz.prog.underlying 2).get (by kernel_rfl), (Option.some_get _).symm, by kernel_rfl⟩,
   (fun fs h => by cases h), (fun n el h => by cases h), (fun fs h => by cases h), (fun el h => by cases h), (fun k h => by cases h; kernel_rfl), (fun h => by cases h), (fun h => by cases h)⟩
theorem ly3 : TiOk Go.Proofs.Tryz.prog lay 3 y3 :=
  ⟨⟨(Go.Proofs.Tryz.prog.info? 3).get (by kernel_rfl), (Option.some_get _).symm, by kernel_rfl, by kernel_rfl, (.int .i64 0), by kernel_rfl, (fun E => (.lit .nil))⟩, by decide, by decide, rfl, by decide, rfl, ⟨(Go.Proofs.Tryz.prog.underlying 3).get (by kernel_rfl), (Option.some_get _).symm, by kernel_rfl⟩,
   (fun fs h => by cases h), (fun n el h => by cases h), (fun fs h => by cases h), (fun el h => by cases h), (fun k h => by cases h; kernel_rfl), (fun h => by cases h), (fun h => by cases h)⟩
theorem ly4 : TiOk Go.Proofs.Tryz.prog lay 4 y4 :=
  ⟨⟨(Go.Proofs.Tryz.prog.info? 4).get (by kernel_rfl), (Option.some_get _).symm, by kernel_rfl, by kernel_rfl, (.bool false), by kernel_rfl, (fun E => (.lit .nil))⟩, by decide, by decide, rfl, by decide, rfl, ⟨(Go.Proofs.Tryz.prog.underlying 4).get (by kernel_rfl), (Option.some_get _).symm, by kernel_rfl⟩,
   (fun fs h => by cases h), (fun n el h => by cases h), (fun fs h => by cases h), (fun el h => by cases h), (fun k h => by cases h), (fun h => by kernel_rfl), (fun h => by cases h)⟩
theorem ly5 : TiOk Go.Proofs.Tryz.prog lay 5 y5 :=
  ⟨⟨(Go.Proofs.Tryz.prog.info? 5).get (by kernel_rfl), (Option.some_get _).symm, by kernel_rfl, by kernel_rfl, (.int .u8 0), by kernel_rfl, (fun E => (.lit .nil))⟩, by decide, by decide, rfl, by decide, rfl, ⟨(Go.Proofs.Tryz.prog.underlying 5).get (by kernel_rfl), (Option.some_get _).symm, by kernel_rfl⟩,
   (fun fs h => by cases h), (fun n el h => by cases h), (fun fs h => by cases h), (fun el h => by cases h), (fun k h => by cases h; kernel_rfl), (fun h => by cases h), (fun h => by cases h)⟩
theorem ly6 : TiOk Go.Proofs.Tryz.prog lay 6 y6 :=
  ⟨⟨(Go.Proofs.Tryz.prog.info? 6).get (by kernel_rfl), (Option.some_get _).symm, by kernel_rfl, by kernel_rfl, (.int .u8 0), by kernel_rfl, (fun E => (.lit .nil))⟩, by decide, by decide, rfl, by decide, rfl, ⟨(Go.Proofs.Tryz.prog.underlying 6).get (by kernel_rfl), (Option.some_get _).symm, by kernel_rfl⟩,
   (fun fs h => by cases h), (fun n el h => by cases h), (fun fs h => by cases h), (fun el h => by cases h), (fun k h => by cases h; kernel_rfl), (fun h => by cases h), (fun h => by cases h)⟩
theorem ly7 : TiOk Go.Proofs.Tryz.prog lay 7 y7 :=
  ⟨⟨(Go.Proofs.Tryz.prog.info? 7).get (by kernel_rfl), (Option.some_get _).symm, by kernel_rfl, by kernel_rfl, (.agg #[.int .i64 0, .int .i64 0, .bool false, .int .u8 0]), by kernel_rfl, (fun E => (rs_agg0 (.lit (.lit (.lit (.lit .nil)))) .nil))⟩, by decide, by decide, rfl, by decide, rfl, ⟨(Go.Proofs.Tryz.prog.underlying 7).get (by kernel_rfl), (Option.some_get _).symm, by kernel_rfl⟩,
   (fun fs h => by cases h; exact ⟨Go.Proofs.Tryz.prog.fieldsOf 7, by kernel_rfl, by kernel_rfl, fun j p hj => by simpa using str_of (fields := (Go.Proofs.Tryz.prog.fieldsOf 7).toList) (by kernel_rfl) (by decide) j p hj⟩), (fun n el h => by cases h), (fun fs h => by cases h; exact fty_of (fields0 := Go.Proofs.Tryz.prog.fieldsOf 7) (by kernel_rfl) (by kernel_rfl)), (fun el h => by cases h), (fun k h => by cases h), (fun h => by cases h), (fun h => by cases h)⟩
theorem ly8 : TiOk Go.Proofs.Tryz.prog lay 8 y8 :=
  ⟨⟨(Go.Proofs.Tryz.prog.info? 8).get (by kernel_rfl), (Option.some_get _).symm, by kernel_rfl, by kernel_rfl, (.agg #[.int .i64 0, .int .i64 0, .bool false, .int .u8 0]), by kernel_rfl, (fun E => (rs_agg0 (.lit (.lit (.lit (.lit .nil)))) .nil))⟩, by decide, by decide, rfl, by decide, rfl, ⟨(Go.Proofs.Tryz.prog.underlying 8).get (by kernel_rfl), (Option.some_get _).symm, by kernel_rfl⟩,
   (fun fs h => by cases h; exact ⟨Go.Proofs.Tryz.prog.fieldsOf 8, by kernel_rfl, by kernel_rfl, fun j p hj => by simpa using str_of (fields := (Go.Proofs.Tryz.prog.fieldsOf 8).toList) (by kernel_rfl) (by decide) j p hj⟩), (fun n el h => by cases h), (fun fs h => by cases h; exact fty_of (fields0 := Go.Proofs.Tryz.prog.fieldsOf 8) (by kernel_rfl) (by kernel_rfl)), (fun el h => by cases h), (fun k h => by cases h), (fun h => by cases h), (fun h => by cases h)⟩
theorem ly9 : TiOk Go.Proofs.Tryz.prog lay 9 y9 :=
  ⟨⟨(Go.Proofs.Tryz.prog.info? 9).get (by kernel_rfl), (Option.some_get _).symm, by kernel_rfl, by kernel_rfl, (.string ⟨#[]⟩), by kernel_rfl, (fun E => (.lit .nil))⟩, by decide, by decide, rfl, by decide, rfl, ⟨(Go.Proofs.Tryz.prog.underlying 9).get (by kernel_rfl), (Option.some_get _).symm, by kernel_rfl⟩,
   (fun fs h => by cases h), (fun n el h => by cases h), (fun fs h => by cases h), (fun el h => by cases h), (fun k h => by cases h), (fun h => by cases h), (fun h => by cases h)⟩
theorem ly10 : TiOk Go.Proofs.Tryz.prog lay 10 y10 :=
  ⟨⟨(Go.Proofs.Tryz.prog.info? 10).get (by kernel_rfl), (Option.some_get _).symm, by kernel_rfl, by kernel_rfl, (.string ⟨#[]⟩), by kernel_rfl, (fun E => (.lit .nil))⟩, by decide, by decide, rfl, by decide, rfl, ⟨(Go.Proofs.Tryz.prog.underlying 10).get (by kernel_rfl), (Option.some_get _).symm, by kernel_rfl⟩,
   (fun fs h => by cases h), (fun n el h => by cases h), (fun fs h => by cases h), (fun el h => by cases h), (fun k h => by cases h), (fun h => by cases h), (fun h => by cases h)⟩
theorem ly11 : TiOk Go.Proofs.Tryz.prog lay 11 y11 :=
  ⟨⟨(Go.Proofs.Tryz.prog.info? 11).get (by kernel_rfl), (Option.some_get _).symm, by kernel_rfl, by kernel_rfl, (.string ⟨#[]⟩), by kernel_rfl, (fun E => (.lit .nil))⟩, by decide, by decide, rfl, by decide, rfl, ⟨(Go.Proofs.Tryz.prog.underlying 11).get (by kernel_rfl), (Option.some_get _).symm, by kernel_rfl⟩,
   (fun fs h => by cases h), (fun n el h => by cases h), (fun fs h => by cases h), (fun el h => by cases h), (fun k h => by cases h), (fun h => by cases h), (fun h => by cases h)⟩
theorem ly12 : TiOk Go.Proofs.Tryz.prog lay 12 y12 :=
  ⟨⟨(Go.Proofs.Tryz.prog.info? 12).get (by kernel_rfl), (Option.some_get _).symm, by kernel_rfl, by kernel_rfl, (.int .u64 0), by kernel_rfl, (fun E => (.lit .nil))⟩, by decide, by decide, rfl, by decide, rfl, ⟨(Go.Proofs.Tryz.prog.underlying 12).get (by kernel_rfl), (Option.some_get _).symm, by kernel_rfl⟩,
   (fun fs h => by cases h), (fun n el h => by cases h), (fun fs h => by cases h), (fun el h => by cases h), (fun k h => by cases h; kernel_rfl), (fun h => by cases h), (fun h => by cases h)⟩
theorem ly13 : TiOk Go.Proofs.Tryz.prog lay 13 y13 :=
  ⟨⟨(Go.Proofs.Tryz.prog.info? 13).get (by kernel_rfl), (Option.some_get _).symm, by kernel_rfl, by kernel_rfl, (.agg #[.string ⟨#[]⟩, .int .u64 0]), by kernel_rfl, (fun E => (rs_agg0 (.lit (.lit .nil)) .nil))⟩, by decide, by decide, rfl, by decide, rfl, ⟨(Go.Proofs.Tryz.prog.underlying 13).get (by kernel_rfl), (Option.some_get _).symm, by kernel_rfl⟩,
   (fun fs h => by cases h; exact ⟨Go.Proofs.Tryz.prog.fieldsOf 13, by kernel_rfl, by kernel_rfl, fun j p hj => by simpa using str_of (fields := (Go.Proofs.Tryz.prog.fieldsOf 13).toList) (by kernel_rfl) (by decide) j p hj⟩), (fun n el h => by cases h), (fun fs h => by cases h; exact fty_of (fields0 := Go.Proofs.Tryz.prog.fieldsOf 13) (by kernel_rfl) (by kernel_rfl)), (fun el h => by cases h), (fun k h => by cases h), (fun h => by cases h), (fun h => by cases h)⟩
theorem ly22 : TiOk Go.Proofs.Tryz.prog lay 22 y22 :=
  ⟨⟨(Go.Proofs.Tryz.prog.info? 22).get (by kernel_rfl), (Option.some_get _).symm, by kernel_rfl, by kernel_rfl, (.slice none 0 0), by kernel_rfl, (fun E => (.own0 (by decide) .nil))⟩, by decide, by decide, rfl, by decide, rfl, ⟨(Go.Proofs.Tryz.prog.underlying 22).get (by kernel_rfl), (Option.some_get _).symm, by kernel_rfl⟩,
   (fun fs h => by cases h), (fun n el h => by cases h), (fun fs h => by cases h), (fun el h => by cases h; kernel_rfl), (fun k h => by cases h), (fun h => by cases h), (fun h => by cases h)⟩
theorem ly23 : TiOk Go.Proofs.Tryz.prog lay 23 y23 :=
  ⟨⟨(Go.Proofs.Tryz.prog.info? 23).get (by kernel_rfl), (Option.some_get _).symm, by kernel_rfl, by kernel_rfl, (.agg #[.slice none 0 0, .slice none 0 0, .slice none 0 0, .slice none 0 0]), by kernel_rfl, (fun E => (rs_agg0 (.own0 (by decide) (.own0 (by decide) (.own0 (by decide) (.own0 (by decide) .nil)))) .nil))⟩, by decide, by decide, rfl, by decide, rfl, ⟨(Go.Proofs.Tryz.prog.underlying 23).get (by kernel_rfl), (Option.some_get _).symm, by kernel_rfl⟩,
   (fun fs h => by cases h), (fun n el h => by cases h; kernel_rfl), (fun fs h => by cases h), (fun el h => by cases h), (fun k h => by cases h), (fun h => by cases h), (fun h => by cases h)⟩
theorem ly24 : TiOk Go.Proofs.Tryz.prog lay 24 y24 :=
  ⟨⟨(Go.Proofs.Tryz.prog.info? 24).get (by kernel_rfl), (Option.some_get _).symm, by kernel_rfl, by kernel_rfl, (.agg #[.int .i64 0, .int .i64 0, .int .i64 0, .int .i64 0]), by kernel_rfl, (fun E => (rs_agg0 (.lit (.lit (.lit (.lit .nil)))) .nil))⟩, by decide, by decide, rfl, by decide, rfl, ⟨(Go.Proofs.Tryz.prog.underlying 24).get (by kernel_rfl), (Option.some_get _).symm, by kernel_rfl⟩,
   (fun fs h => by cases h), (fun n el h => by cases h; kernel_rfl), (fun fs h => by cases h), (fun el h => by cases h), (fun k h => by cases h), (fun h => by cases h), (fun _ => plain_arr (k := .i64) (i := (Go.Proofs.Tryz.prog.info? 3).get (by kernel_rfl)) (by kernel_rfl) (by kernel_rfl) (Option.some_get _).symm (by kernel_rfl) (by kernel_rfl))⟩
theorem ly25 : TiOk Go.Proofs.Tryz.prog lay 25 y25 :=
  ⟨⟨(Go.Proofs.Tryz.prog.info? 25).get (by kernel_rfl), (Option.some_get _).symm, by kernel_rfl, by kernel_rfl, (.slice none 0 0), by kernel_rfl, (fun E => (.own0 (by decide) .nil))⟩, by decide, by decide, rfl, by decide, rfl, ⟨(Go.Proofs.Tryz.prog.underlying 25).get (by kernel_rfl), (Option.some_get _).symm, by kernel_rfl⟩,
   (fun fs h => by cases h), (fun n el h => by cases h), (fun fs h => by cases h), (fun el h => by cases h; kernel_rfl), (fun k h => by cases h), (fun h => by cases h), (fun h => by cases h)⟩
theorem ly26 : TiOk Go.Proofs.Tryz.prog lay 26 y26 :=
  ⟨⟨(Go.Proofs.Tryz.prog.info? 26).get (by kernel_rfl), (Option.some_get _).symm, by kernel_rfl, by kernel_rfl, (.slice none 0 0), by kernel_rfl, (fun E => (.own0 (by decide) .nil))⟩, by decide, by decide, rfl, by decide, rfl, ⟨(Go.Proofs.Tryz.prog.underlying 26).get (by kernel_rfl), (Option.some_get _).symm, by kernel_rfl⟩,
   (fun fs h => by cases h), (fun n el h => by cases h), (fun fs h => by cases h), (fun el h => by cases h; kernel_rfl), (fun k h => by cases h), (fun h => by cases h), (fun h => by cases h)⟩
theorem ly28 : TiOk Go.Proofs.Tryz.prog lay 28 y28 :=
  ⟨⟨(Go.Proofs.Tryz.prog.info? 28).get (by kernel_rfl), (Option.some_get _).symm, by kernel_rfl, by kernel_rfl, (.agg #[.slice none 0 0, .slice none 0 0, .slice none 0 0, .slice none 0 0, .int .i64 0, .int .i64 0, .int .i64 0, .int .i64 0, .int .i64 0, .slice none 0 0, .slice none 0 0]), by kernel_rfl, (fun E => (rs_agg0 (.own0 (by decide) (.own0 (by decide) (.own0 (by decide) (.own0 (by decide) (.lit (.lit (.lit (.lit (.lit (.own0 (by decide) (.own0 (by decide) .nil))))))))))) .nil))⟩, by decide, by decide, rfl, by decide, rfl, ⟨(Go.Proofs.Tryz.prog.underlying 28).get (by kernel_rfl), (Option.some_get _).symm, by kernel_rfl⟩,
   (fun fs h => by cases h; exact ⟨Go.Proofs.Tryz.prog.fieldsOf 28, by kernel_rfl, by kernel_rfl, fun j p hj => by simpa using str_of (fields := (Go.Proofs.Tryz.prog.fieldsOf 28).toList) (by kernel_rfl) (by decide) j p hj⟩), (fun n el h => by cases h), (fun fs h => by cases h; exact fty_of (fields0 := Go.Proofs.Tryz.prog.fieldsOf 28) (by kernel_rfl) (by kernel_rfl)), (fun el h => by cases h), (fun k h => by cases h), (fun h => by cases h), (fun h => by cases h)⟩
theorem ly30 : TiOk Go.Proofs.Tryz.prog lay 30 y30 :=
  ⟨⟨(Go.Proofs.Tryz.prog.info? 30).get (by kernel_rfl), (Option.some_get _).symm, by kernel_rfl, by kernel_rfl, (.int .i64 0), by kernel_rfl, (fun E => (.lit .nil))⟩, by decide, by decide, rfl, by decide, rfl, ⟨(Go.Proofs.Tryz.prog.underlying 30).get (by kernel_rfl), (Option.some_get _).symm, by kernel_rfl⟩,
   (fun fs h => by cases h), (fun n el h => by cases h), (fun fs h => by cases h), (fun el h => by cases h), (fun k h => by cases h; kernel_rfl), (fun h => by cases h), (fun h => by cases h)⟩
theorem ly40 : TiOk Go.Proofs.Tryz.prog lay 40 y40 :=
  ⟨⟨(Go.Proofs.Tryz.prog.info? 40).get (by kernel_rfl), (Option.some_get _).symm, by kernel_rfl, by kernel_rfl, (.slice none 0 0), by kernel_rfl, (fun E => (.own0 (by decide) .nil))⟩, by decide, by decide, rfl, by decide, rfl, ⟨(Go.Proofs.Tryz.prog.underlying 40).get (by kernel_rfl), (Option.some_get _).symm, by kernel_rfl⟩,
   (fun fs h => by cases h), (fun n el h => by cases h), (fun fs h => by cases h), (fun el h => by cases h; kernel_rfl), (fun k h => by cases h), (fun h => by cases h), (fun h => by cases h)⟩
theorem ly41 : TiOk Go.Proofs.Tryz.prog lay 41 y41 :=
  ⟨⟨(Go.Proofs.Tryz.prog.info? 41).get (by kernel_rfl), (Option.some_get _).symm, by kernel_rfl, by kernel_rfl, (.slice none 0 0), by kernel_rfl, (fun E => (.own0 (by decide) .nil))⟩, by decide, by decide, rfl, by decide, rfl, ⟨(Go.Proofs.Tryz.prog.underlying 41).get (by kernel_rfl), (Option.some_get _).symm, by kernel_rfl⟩,
   (fun fs h => by cases h), (fun n el h => by cases h), (fun fs h => by cases h), (fun el h => by cases h; kernel_rfl), (fun k h => by cases h), (fun h => by cases h), (fun h => by cases h)⟩
theorem ly42 : TiOk Go.Proofs.Tryz.prog lay 42 y42 :=
  ⟨⟨(Go.Proofs.Tryz.prog.info? 42).get (by kernel_rfl), (Option.some_get _).symm, by kernel_rfl, by kernel_rfl, (.slice none 0 0), by kernel_rfl, (fun E => (.own0 (by decide) .nil))⟩, by decide, by decide, rfl, by decide, rfl, ⟨(Go.Proofs.Tryz.prog.underlying 42).get (by kernel_rfl), (Option.some_get _).symm, by kernel_rfl⟩,
   (fun fs h => by cases h), (fun n el h => by cases h), (fun fs h => by cases h), (fun el h => by cases h; kernel_rfl), (fun k h => by cases h), (fun h => by cases h), (fun h => by cases h)⟩
theorem ly44 : TiOk Go.Proofs.Tryz.prog lay 44 y44 :=
  ⟨⟨(Go.Proofs.Tryz.prog.info? 44).get (by kernel_rfl), (Option.some_get _).symm, by kernel_rfl, by kernel_rfl, (.agg #[.int .i64 0, .int .i64 0, .int .i64 0, .slice none 0 0, .int .i64 0, .int .i64 0, .int .i64 0, .int .i64 0, .int .i64 0, .int .i64 0, .slice none 0 0, .slice none 0 0, .int .i64 0, .int .i64 0, .int .i64 0, .int .i64 0, .int .i64 0]), by kernel_rfl, (fun E => (rs_agg0 (.lit (.lit (.lit (.own0 (by decide) (.lit (.lit (.lit (.lit (.lit (.lit (.own0 (by decide) (.own0 (by decide) (.lit (.lit (.lit (.lit (.lit .nil))))))))))))))))) .nil))⟩, by decide, by decide, rfl, by decide, rfl, ⟨(Go.Proofs.Tryz.prog.underlying 44).get (by kernel_rfl), (Option.some_get _).symm, by kernel_rfl⟩,
   (fun fs h => by cases h; exact ⟨Go.Proofs.Tryz.prog.fieldsOf 44, by kernel_rfl, by kernel_rfl, fun j p hj => by simpa using str_of (fields := (Go.Proofs.Tryz.prog.fieldsOf 44).toList) (by kernel_rfl) (by decide) j p hj⟩), (fun n el h => by cases h), (fun fs h => by cases h; exact fty_of (fields0 := Go.Proofs.Tryz.prog.fieldsOf 44) (by kernel_rfl) (by kernel_rfl)), (fun el h => by cases h), (fun k h => by cases h), (fun h => by cases h), (fun h => by cases h)⟩
theorem ly50 : TiOk Go.Proofs.Tryz.prog lay 50 y50 :=
  ⟨⟨(Go.Proofs.Tryz.prog.info? 50).get (by kernel_rfl), (Option.some_get _).symm, by kernel_rfl, by kernel_rfl, (.int .u64 0), by kernel_rfl, (fun E => (.lit .nil))⟩, by decide, by decide, rfl, by decide, rfl, ⟨(Go.Proofs.Tryz.prog.underlying 50).get (by kernel_rfl), (Option.some_get _).symm, by kernel_rfl⟩,
   (fun fs h => by cases h), (fun n el h => by cases h), (fun fs h => by cases h), (fun el h => by cases h), (fun k h => by cases h; kernel_rfl), (fun h => by cases h), (fun h => by cases h)⟩
theorem ly51 : TiOk Go.Proofs.Tryz.prog lay 51 y51 :=
  ⟨⟨(Go.Proofs.Tryz.prog.info? 51).get (by kernel_rfl), (Option.some_get _).symm, by kernel_rfl, by kernel_rfl, (.slice none 0 0), by kernel_rfl, (fun E => (.own0 (by decide) .nil))⟩, by decide, by decide, rfl, by decide, rfl, ⟨(Go.Proofs.Tryz.prog.underlying 51).get (by kernel_rfl), (Option.some_get _).symm, by kernel_rfl⟩,
   (fun fs h => by cases h), (fun n el h => by cases h), (fun fs h => by cases h), (fun el h => by cases h; kernel_rfl), (fun k h => by cases h), (fun h => by cases h), (fun h => by cases h)⟩
theorem ly54 : TiOk Go.Proofs.Tryz.prog lay 54 y54 :=
  ⟨⟨(Go.Proofs.Tryz.prog.info? 54).get (by kernel_rfl), (Option.some_get _).symm, by kernel_rfl, by kernel_rfl, (.agg #[.int .i64 0, .int .i64 0, .int .i64 0]), by kernel_rfl, (fun E => (rs_agg0 (.lit (.lit (.lit .nil))) .nil))⟩, by decide, by decide, rfl, by decide, rfl, ⟨(Go.Proofs.Tryz.prog.underlying 54).get (by kernel_rfl), (Option.some_get _).symm, by kernel_rfl⟩,
   (fun fs h => by cases h; exact ⟨Go.Proofs.Tryz.prog.fieldsOf 54, by kernel_rfl, by kernel_rfl, fun j p hj => by simpa using str_of (fields := (Go.Proofs.Tryz.prog.fieldsOf 54).toList) (by kernel_rfl) (by decide) j p hj⟩), (fun n el h => by cases h), (fun fs h => by cases h; exact fty_of (fields0 := Go.Proofs.Tryz.prog.fieldsOf 54) (by kernel_rfl) (by kernel_rfl)), (fun el h => by cases h), (fun k h => by cases h), (fun h => by cases h), (fun _ => plain_struct (by kernel_rfl) (by kernel_rfl) (by kernel_rfl) (by kernel_rfl) (by kernel_rfl))⟩
theorem ly57 : TiOk Go.Proofs.Tryz.prog lay 57 y57 :=
  ⟨⟨(Go.Proofs.Tryz.prog.info? 57).get (by kernel_rfl), (Option.some_get _).symm, by kernel_rfl, by kernel_rfl, (.agg #[.int .i64 0, .int .i64 0, .int .i64 0, .int .i64 0]), by kernel_rfl, (fun E => (rs_agg0 (.lit (.lit (.lit (.lit .nil)))) .nil))⟩, by decide, by decide, rfl, by decide, rfl, ⟨(Go.Proofs.Tryz.prog.underlying 57).get (by kernel_rfl), (Option.some_get _).symm, by kernel_rfl⟩,
   (fun fs h => by cases h; exact ⟨Go.Proofs.Tryz.prog.fieldsOf 57, by kernel_rfl, by kernel_rfl, fun j p hj => by simpa using str_of (fields := (Go.Proofs.Tryz.prog.fieldsOf 57).toList) (by kernel_rfl) (by decide) j p hj⟩), (fun n el h => by cases h), (fun fs h => by cases h; exact fty_of (fields0 := Go.Proofs.Tryz.prog.fieldsOf 57) (by kernel_rfl) (by kernel_rfl)), (fun el h => by cases h), (fun k h => by cases h), (fun h => by cases h), (fun _ => plain_struct (by kernel_rfl) (by kernel_rfl) (by kernel_rfl) (by kernel_rfl) (by kernel_rfl))⟩
theorem ly59 : TiOk Go.Proofs.Tryz.prog lay 59 y59 :=
  ⟨⟨(Go.Proofs.Tryz.prog.info? 59).get (by kernel_rfl), (Option.some_get _).symm, by kernel_rfl, by kernel_rfl, (.agg #[.int .i64 0, .int .i64 0, .int .i64 0]), by kernel_rfl, (fun E => (rs_agg0 (.lit (.lit (.lit .nil))) .nil))⟩, by decide, by decide, rfl, by decide, rfl, ⟨(Go.Proofs.Tryz.prog.underlying 59).get (by kernel_rfl), (Option.some_get _).symm, by kernel_rfl⟩,
   (fun fs h => by cases h; exact ⟨Go.Proofs.Tryz.prog.fieldsOf 59, by kernel_rfl, by kernel_rfl, fun j p hj => by simpa using str_of (fields := (Go.Proofs.Tryz.prog.fieldsOf 59).toList) (by kernel_rfl) (by decide) j p hj⟩), (fun n el h => by cases h), (fun fs h => by cases h; exact fty_of (fields0 := Go.Proofs.Tryz.prog.fieldsOf 59) (by kernel_rfl) (by kernel_rfl)), (fun el h => by cases h), (fun k h => by cases h), (fun h => by cases h), (fun _ => plain_struct (by kernel_rfl) (by kernel_rfl) (by kernel_rfl) (by kernel_rfl) (by kernel_rfl))⟩
theorem ly65 : TiOk Go.Proofs.Tryz.prog lay 65 y65 :=
  ⟨⟨(Go.Proofs.Tryz.prog.info? 65).get (by kernel_rfl), (Option.some_get _).symm, by kernel_rfl, by kernel_rfl, (.agg #[.int .i64 0, .int .i64 0, .int .i64 0]), by kernel_rfl, (fun E => (rs_agg0 (.lit (.lit (.lit .nil))) .nil))⟩, by decide, by decide, rfl, by decide, rfl, ⟨(Go.Proofs.Tryz.prog.underlying 65).get (by kernel_rfl), (Option.some_get _).symm, by kernel_rfl⟩,
   (fun fs h => by cases h; exact ⟨Go.Proofs.Tryz.prog.fieldsOf 65, by kernel_rfl, by kernel_rfl, fun j p hj => by simpa using str_of (fields := (Go.Proofs.Tryz.prog.fieldsOf 65).toList) (by kernel_rfl) (by decide) j p hj⟩), (fun n el h => by cases h), (fun fs h => by cases h; exact fty_of (fields0 := Go.Proofs.Tryz.prog.fieldsOf 65) (by kernel_rfl) (by kernel_rfl)), (fun el h => by cases h), (fun k h => by cases h), (fun h => by cases h), (fun _ => plain_struct (by kernel_rfl) (by kernel_rfl) (by kernel_rfl) (by kernel_rfl) (by kernel_rfl))⟩
theorem ly68 : TiOk Go.Proofs.Tryz.prog lay 68 y68 :=
  ⟨⟨(Go.Proofs.Tryz.prog.info? 68).get (by kernel_rfl), (Option.some_get _).symm, by kernel_rfl, by kernel_rfl, (.agg #[.int .i64 0, .int .i64 0, .int .i64 0, .int .i64 0]), by kernel_rfl, (fun E => (rs_agg0 (.lit (.lit (.lit (.lit .nil)))) .nil))⟩, by decide, by decide, rfl, by decide, rfl, ⟨(Go.Proofs.Tryz.prog.underlying 68).get (by kernel_rfl), (Option.some_get _).symm, by kernel_rfl⟩,
   (fun fs h => by cases h; exact ⟨Go.Proofs.Tryz.prog.fieldsOf 68, by kernel_rfl, by kernel_rfl, fun j p hj => by simpa using str_of (fields := (Go.Proofs.Tryz.prog.fieldsOf 68).toList) (by kernel_rfl) (by decide) j p hj⟩), (fun n el h => by cases h), (fun fs h => by cases h; exact fty_of (fields0 := Go.Proofs.Tryz.prog.fieldsOf 68) (by kernel_rfl) (by kernel_rfl)), (fun el h => by cases h), (fun k h => by cases h), (fun h => by cases h), (fun _ => plain_struct (by kernel_rfl) (by kernel_rfl) (by kernel_rfl) (by kernel_rfl) (by kernel_rfl))⟩
theorem ly73 : TiOk Go.Proofs.Tryz.prog lay 73 y73 :=
  ⟨⟨(Go.Proofs.Tryz.prog.info? 73).get (by kernel_rfl), (Option.some_get _).symm, by kernel_rfl, by kernel_rfl, (.pointer none), by kernel_rfl, (fun E => (.lit .nil))⟩, by decide, by decide, rfl, by decide, rfl, ⟨(Go.Proofs.Tryz.prog.underlying 73).get (by kernel_rfl), (Option.some_get _).symm, by kernel_rfl⟩,
   (fun fs h => by cases h), (fun n el h => by cases h), (fun fs h => by cases h), (fun el h => by cases h), (fun k h => by cases h), (fun h => by cases h), (fun h => by cases h)⟩
theorem ly74 : TiOk Go.Proofs.Tryz.prog lay 74 y74 :=
  ⟨⟨(Go.Proofs.Tryz.prog.info? 74).get (by kernel_rfl), (Option.some_get _).symm, by kernel_rfl, by kernel_rfl, (.pointer none), by kernel_rfl, (fun E => (.lit .nil))⟩, by decide, by decide, rfl, by decide, rfl, ⟨(Go.Proofs.Tryz.prog.underlying 74).get (by kernel_rfl), (Option.some_get _).symm, by kernel_rfl⟩,
   (fun fs h => by cases h), (fun n el h => by cases h), (fun fs h => by cases h), (fun el h => by cases h), (fun k h => by cases h), (fun h => by cases h), (fun h => by cases h)⟩
theorem ly92 : TiOk Go.Proofs.Tryz.prog lay 92 y92 :=
  ⟨⟨(Go.Proofs.Tryz.prog.info? 92).get (by kernel_rfl), (Option.some_get _).symm, by kernel_rfl, by kernel_rfl, (.agg #[.slice none 0 0, .slice none 0 0, .slice none 0 0, .slice none 0 0]), by kernel_rfl, (fun E => (rs_agg0 (.own0 (by decide) (.own0 (by decide) (.own0 (by decide) (.own0 (by decide) .nil)))) .nil))⟩, by decide, by decide, rfl, by decide, rfl, ⟨(Go.Proofs.Tryz.prog.underlying 92).get (by kernel_rfl), (Option.some_get _).symm, by kernel_rfl⟩,
   (fun fs h => by cases h), (fun n el h => by cases h; kernel_rfl), (fun fs h => by cases h), (fun el h => by cases h), (fun k h => by cases h), (fun h => by cases h), (fun h => by cases h)⟩
theorem ly94 : TiOk Go.Proofs.Tryz.prog lay 94 y94 :=
  ⟨⟨(Go.Proofs.Tryz.prog.info? 94).get (by kernel_rfl), (Option.some_get _).symm, by kernel_rfl, by kernel_rfl, (.agg #[.int .i64 0, .int .i64 0, .int .i64 0, .slice none 0 0]), by kernel_rfl, (fun E => (rs_agg0 (.lit (.lit (.lit (.own0 (by decide) .nil)))) .nil))⟩, by decide, by decide, rfl, by decide, rfl, ⟨(Go.Proofs.Tryz.prog.underlying 94).get (by kernel_rfl), (Option.some_get _).symm, by kernel_rfl⟩,
   (fun fs h => by cases h; exact ⟨Go.Proofs.Tryz.prog.fieldsOf 94, by kernel_rfl, by kernel_rfl, fun j p hj => by simpa using str_of (fields := (Go.Proofs.Tryz.prog.fieldsOf 94).toList) (by kernel_rfl) (by decide) j p hj⟩), (fun n el h => by cases h), (fun fs h => by cases h; exact fty_of (fields0 := Go.Proofs.Tryz.prog.fieldsOf 94) (by kernel_rfl) (by kernel_rfl)), (fun el h => by cases h), (fun k h => by cases h), (fun h => by cases h), (fun h => by cases h)⟩
theorem ly95 : TiOk Go.Proofs.Tryz.prog lay 95 y95 :=
  ⟨⟨(Go.Proofs.Tryz.prog.info? 95).get (by kernel_rfl), (Option.some_get _).symm, by kernel_rfl, by kernel_rfl, (.slice none 0 0), by kernel_rfl, (fun E => (.own0 (by decide) .nil))⟩, by decide, by decide, rfl, by decide, rfl, ⟨(Go.Proofs.Tryz.prog.underlying 95).get (by kernel_rfl), (Option.some_get _).symm, by kernel_rfl⟩,
   (fun fs h => by cases h), (fun n el h => by cases h), (fun fs h => by cases h), (fun el h => by cases h; kernel_rfl), (fun k h => by cases h), (fun h => by cases h), (fun h => by cases h)⟩
theorem ly96 : TiOk Go.Proofs.Tryz.prog lay 96 y96 :=
  ⟨⟨(Go.Proofs.Tryz.prog.info? 96).get (by kernel_rfl), (Option.some_get _).symm, by kernel_rfl, by kernel_rfl, (.slice none 0 0), by kernel_rfl, (fun E => (.own0 (by decide) .nil))⟩, by decide, by decide, rfl, by decide, rfl, ⟨(Go.Proofs.Tryz.prog.underlying 96).get (by kernel_rfl), (Option.some_get _).symm, by kernel_rfl⟩,
   (fun fs h => by cases h), (fun n el h => by cases h), (fun fs h => by cases h), (fun el h => by cases h; kernel_rfl), (fun k h => by cases h), (fun h => by cases h), (fun h => by cases h)⟩
theorem ly98 : TiOk Go.Proofs.Tryz.prog lay 98 y98 :=
  ⟨⟨(Go.Proofs.Tryz.prog.info? 98).get (by kernel_rfl), (Option.some_get _).symm, by kernel_rfl, by kernel_rfl, (.agg #[.slice none 0 0, .slice none 0 0, .slice none 0 0, .slice none 0 0, .int .i64 0, .slice none 0 0, .slice none 0 0]), by kernel_rfl, (fun E => (rs_agg0 (.own0 (by decide) (.own0 (by decide) (.own0 (by decide) (.own0 (by decide) (.lit (.own0 (by decide) (.own0 (by decide) .nil))))))) .nil))⟩, by decide, by decide, rfl, by decide, rfl, ⟨(Go.Proofs.Tryz.prog.underlying 98).get (by kernel_rfl), (Option.some_get _).symm, by kernel_rfl⟩,
   (fun fs h => by cases h; exact ⟨Go.Proofs.Tryz.prog.fieldsOf 98, by kernel_rfl, by kernel_rfl, fun j p hj => by simpa using str_of (fields := (Go.Proofs.Tryz.prog.fieldsOf 98).toList) (by kernel_rfl) (by decide) j p hj⟩), (fun n el h => by cases h), (fun fs h => by cases h; exact fty_of (fields0 := Go.Proofs.Tryz.prog.fieldsOf 98) (by kernel_rfl) (by kernel_rfl)), (fun el h => by cases h), (fun k h => by cases h), (fun h => by cases h), (fun h => by cases h)⟩
theorem ly114 : TiOk Go.Proofs.Tryz.prog lay 114 y114 :=
  ⟨⟨(Go.Proofs.Tryz.prog.info? 114).get (by kernel_rfl), (Option.some_get _).symm, by kernel_rfl, by kernel_rfl, (.pointer none), by kernel_rfl, (fun E => (.lit .nil))⟩, by decide, by decide, rfl, by decide, rfl, ⟨(Go.Proofs.Tryz.prog.underlying 114).get (by kernel_rfl), (Option.some_get _).symm, by kernel_rfl⟩,
   (fun fs h => by cases h), (fun n el h => by cases h), (fun fs h => by cases h), (fun el h => by cases h), (fun k h => by cases h), (fun h => by cases h), (fun h => by cases h)⟩
theorem ly124 : TiOk Go.Proofs.Tryz.prog lay 124 y124 :=
  ⟨⟨(Go.Proofs.Tryz.prog.info? 124).get (by kernel_rfl), (Option.some_get _).symm, by kernel_rfl, by kernel_rfl, (.nilFunc), by kernel_rfl, (fun E => (.lit .nil))⟩, by decide, by decide, rfl, by decide, rfl, ⟨(Go.Proofs.Tryz.prog.underlying 124).get (by kernel_rfl), (Option.some_get _).symm, by kernel_rfl⟩,
   (fun fs h => by cases h), (fun n el h => by cases h), (fun fs h => by cases h), (fun el h => by cases h), (fun k h => by cases h), (fun h => by cases h), (fun h => by cases h)⟩
theorem ly139 : TiOk Go.Proofs.Tryz.prog lay 139 y139 :=
  ⟨⟨(Go.Proofs.Tryz.prog.info? 139).get (by kernel_rfl), (Option.some_get _).symm, by kernel_rfl, by kernel_rfl, (.nilFunc), by kernel_rfl, (fun E => (.lit .nil))⟩, by decide, by decide, rfl, by decide, rfl, ⟨(Go.Proofs.Tryz.prog.underlying 139).get (by kernel_rfl), (Option.some_get _).symm, by kernel_rfl⟩,
   (fun fs h => by cases h), (fun n el h => by cases h), (fun fs h => by cases h), (fun el h => by cases h), (fun k h => by cases h), (fun h => by cases h), (fun h => by cases h)⟩
theorem ly143 : TiOk Go.Proofs.Tryz.prog lay 143 y143 :=
  ⟨⟨(Go.Proofs.Tryz.prog.info? 143).get (by kernel_rfl), (Option.some_get _).symm, by kernel_rfl, by kernel_rfl, (.nilFunc), by kernel_rfl, (fun E => (.lit .nil))⟩, by decide, by decide, rfl, by decide, rfl, ⟨(Go.Proofs.Tryz.prog.underlying 143).get (by kernel_rfl), (Option.some_get _).symm, by kernel_rfl⟩,
   (fun fs h => by cases h), (fun n el h => by cases h), (fun fs h => by cases h), (fun el h => by cases h), (fun k h => by cases h), (fun h => by cases h), (fun h => by cases h)⟩
theorem ly162 : TiOk Go.Proofs.Tryz.prog lay 162 y162 :=
  ⟨⟨(Go.Proofs.Tryz.prog.info? 162).get (by kernel_rfl), (Option.some_get _).symm, by kernel_rfl, by kernel_rfl, (.pointer none), by kernel_rfl, (fun E => (.lit .nil))⟩, by decide, by decide, rfl, by decide, rfl, ⟨(Go.Proofs.Tryz.prog.underlying 162).get (by kernel_rfl), (Option.some_get _).symm, by kernel_rfl⟩,
   (fun fs h => by cases h), (fun n el h => by cases h), (fun fs h => by cases h), (fun el h => by cases h), (fun k h => by cases h), (fun h => by cases h), (fun h => by cases h)⟩
theorem ly164 : TiOk Go.Proofs.Tryz.prog lay 164 y164 :=
  ⟨⟨(Go.Proofs.Tryz.prog.info? 164).get (by kernel_rfl), (Option.some_get _).symm, by kernel_rfl, by kernel_rfl, (.nilFunc), by kernel_rfl, (fun E => (.lit .nil))⟩, by decide, by decide, rfl, by decide, rfl, ⟨(Go.Proofs.Tryz.prog.underlying 164).get (by kernel_rfl), (Option.some_get _).symm, by kernel_rfl⟩,
   (fun fs h => by cases h), (fun n el h => by cases h), (fun fs h => by cases h), (fun el h => by cases h), (fun k h => by cases h), (fun h => by cases h), (fun h => by cases h)⟩
theorem ly166 : TiOk Go.Proofs.Tryz.prog lay 166 y166 :=
  ⟨⟨(Go.Proofs.Tryz.prog.info? 166).get (by kernel_rfl), (Option.some_get _).symm, by kernel_rfl, by kernel_rfl, (.nilFunc), by kernel_rfl, (fun E => (.lit .nil))⟩, by decide, by decide, rfl, by decide, rfl, ⟨(Go.Proofs.Tryz.prog.underlying 166).get (by kernel_rfl), (Option.some_get _).symm, by kernel_rfl⟩,
   (fun fs h => by cases h), (fun n el h => by cases h), (fun fs h => by cases h), (fun el h => by cases h), (fun k h => by cases h), (fun h => by cases h), (fun h => by cases h)⟩
theorem ly168 : TiOk Go.Proofs.Tryz.prog lay 168 y168 :=
  ⟨⟨(Go.Proofs.Tryz.prog.info? 168).get (by kernel_rfl), (Option.some_get _).symm, by kernel_rfl, by kernel_rfl, (.agg #[.pointer none]), by kernel_rfl, (fun E => (rs_agg0 (.lit .nil) .nil))⟩, by decide, by decide, rfl, by decide, rfl, ⟨(Go.Proofs.Tryz.prog.underlying 168).get (by kernel_rfl), (Option.some_get _).symm, by kernel_rfl⟩,
   (fun fs h => by cases h; exact ⟨Go.Proofs.Tryz.prog.fieldsOf 168, by kernel_rfl, by kernel_rfl, fun j p hj => by simpa using str_of (fields := (Go.Proofs.Tryz.prog.fieldsOf 168).toList) (by kernel_rfl) (by decide) j p hj⟩), (fun n el h => by cases h), (fun fs h => by cases h; exact fty_of (fields0 := Go.Proofs.Tryz.prog.fieldsOf 168) (by kernel_rfl) (by kernel_rfl)), (fun el h => by cases h), (fun k h => by cases h), (fun h => by cases h), (fun h => by cases h)⟩
theorem ly176 : TiOk Go.Proofs.Tryz.prog lay 176 y176 :=
  ⟨⟨(Go.Proofs.Tryz.prog.info? 176).get (by kernel_rfl), (Option.some_get _).symm, by kernel_rfl, by kernel_rfl, (.nilFunc), by kernel_rfl, (fun E => (.lit .nil))⟩, by decide, by decide, rfl, by decide, rfl, ⟨(Go.Proofs.Tryz.prog.underlying 176).get (by kernel_rfl), (Option.some_get _).symm, by kernel_rfl⟩,
   (fun fs h => by cases h), (fun n el h => by cases h), (fun fs h => by cases h), (fun el h => by cases h), (fun k h => by cases h), (fun h => by cases h), (fun h => by cases h)⟩
theorem ly178 : TiOk Go.Proofs.Tryz.prog lay 178 y178 :=
  ⟨⟨(Go.Proofs.Tryz.prog.info? 178).get (by kernel_rfl), (Option.some_get _).symm, by kernel_rfl, by kernel_rfl, (.nilFunc), by kernel_rfl, (fun E => (.lit .nil))⟩, by decide, by decide, rfl, by decide, rfl, ⟨(Go.Proofs.Tryz.prog.underlying 178).get (by kernel_rfl), (Option.some_get _).symm, by kernel_rfl⟩,
   (fun fs h => by cases h), (fun n el h => by cases h), (fun fs h => by cases h), (fun el h => by cases h), (fun k h => by cases h), (fun h => by cases h), (fun h => by cases h)⟩
theorem ly203 : TiOk Go.Proofs.Tryz.prog lay 203 y203 :=
  ⟨⟨(Go.Proofs.Tryz.prog.info? 203).get (by kernel_rfl), (Option.some_get _).symm, by kernel_rfl, by kernel_rfl, (.agg #[.int .i64 0, .int .i64 0]), by kernel_rfl, (fun E => (rs_agg0 (.lit (.lit .nil)) .nil))⟩, by decide, by decide, rfl, by decide, rfl, ⟨(Go.Proofs.Tryz.prog.underlying 203).get (by kernel_rfl), (Option.some_get _).symm, by kernel_rfl⟩,
   (fun fs h => by cases h; exact ⟨Go.Proofs.Tryz.prog.fieldsOf 203, by kernel_rfl, by kernel_rfl, fun j p hj => by simpa using str_of (fields := (Go.Proofs.Tryz.prog.fieldsOf 203).toList) (by kernel_rfl) (by decide) j p hj⟩), (fun n el h => by cases h), (fun fs h => by cases h; exact fty_of (fields0 := Go.Proofs.Tryz.prog.fieldsOf 203) (by kernel_rfl) (by kernel_rfl)), (fun el h => by cases h), (fun k h => by cases h), (fun h => by cases h), (fun _ => plain_struct (by kernel_rfl) (by kernel_rfl) (by kernel_rfl) (by kernel_rfl) (by kernel_rfl))⟩
theorem layOk : LayOk Go.Proofs.Tryz.prog lay := by
  have this : ∀ p ∈ layL, TiOk Go.Proofs.Tryz.prog lay p.1 p.2 := by
    simp only [layL, List.forall_mem_cons]
    exact ⟨ly1, ly2, ly3, ly4, ly5, ly6, ly7, ly8, ly9, ly10, ly11, ly12, ly13, ly22, ly23, ly24, ly25, ly26, ly28, ly30, ly40, ly41, ly42, ly44, ly50, ly51, ly54, ly57, ly59, ly65, ly68, ly73, ly74, ly92, ly94, ly95, ly96, ly98, ly114, ly124, ly139, ly143, ly162, ly164, ly166, ly168, ly176, ly178, ly203, fun p hp => by cases hp⟩
  exact fun t ti h => this (t, ti) (lk_mem h)
end Ve

/- All functions of a table at once. -/
namespace Ve
open Go
def tieB (P : Program) (p : Nat × IFn) : Option IR := (P.funcs[p.1]?).bind fun fn => fn.body.bind fun c => graft c p.2.body
def tieR (P : Program) (p : Nat × IFn) : Option (List ResultVar) := (P.funcs[p.1]?).map fun fn => fn.results.toList
def tieW (P : Program) (L : Lay) (p : Nat × IFn) : Bool := match P.funcs[p.1]? with
  | some fn => (match fn.body with
    | some c => wfC L fn.ntmps c
    | none => false) && !(fn.name == "runtime.NumGoroutine")
  | none => false
theorem tie_all {P : Program} {L : Lay} {l : List (Nat × IFn)} (h1 : l.map (tieB P) = l.map fun p => some p.2.body) (h2 : l.map (tieR P) = l.map fun p => some p.2.results) (h3 : l.all (tieW P L) = true) :
    ∀ f d, lk l f = some d → FnIs P L f d := by
  intro f d h
  have hm := lk_mem h
  have e1 := List.map_inj_left.1 h1 _ hm
  have e2 := List.map_inj_left.1 h2 _ hm
  have e3 := List.all_eq_true.1 h3 _ hm
  simp only [tieB, Option.bind_eq_some_iff] at e1
  obtain ⟨fn, hf, c, hb, hg⟩ := e1
  simp only [tieR, hf, Option.map_some, Option.some.injEq] at e2
  simp only [tieW, hf, hb, Bool.and_eq_true, Bool.not_eq_true'] at e3
  exact ⟨⟨fn, c, hf, hb, hg, e3.1, e2, e3.2⟩⟩
end Ve

/- Each function of the tables is the program's. -/
namespace Ve
open Go
set_option maxRecDepth 100000
theorem fns1 : tblL.map (tieB Go.Proofs.Tryz.prog) = tblL.map fun p => some p.2.body := by kernel_rfl
theorem fns2 : tblL.map (tieR Go.Proofs.Tryz.prog) = tblL.map fun p => some p.2.results := by kernel_rfl
theorem fns3 : tblL.all (tieW Go.Proofs.Tryz.prog lay) = true := by kernel_rfl
theorem fnsOk : ∀ f d, tbl f = some d → FnIs Go.Proofs.Tryz.prog lay f d := tie_all fns1 fns2 fns3
end Ve

/- slices.Clone: what its steps need. -/
namespace Ve
open Go
theorem run_build0 {P : Program} (w : World) (t e : TypeId) (i : TypeInfo) (ht : P.underlying t = some (.slice e)) (hi : P.info? e = some i) :
    (Instr.buildSlice t 0 #[]).run P w = .ok (.slice (some { block := w.heap.size, off := 0 }) 0 0) (w.alloc (.cells #[] e)) := by
  simp [Instr.buildSlice, run_underlying ht, Go.sizeOf, typeInfo, hi, Instr.fill, newRow, show Array.range 0 = #[] from rfl]
theorem rangeAt_alloc {w : World} {b off : Nat} {ys : List Value} {o : Go.Obj} (h : w.rangeAt b off ys) : (w.alloc o).rangeAt b off ys := by
  by_cases hb : b < w.heap.size
  · exact rangeAt_block ((Later.alloc w o).2 b hb) h
  · cases ys with
    | nil => intro j u hj; simp at hj
    | cons y ys =>
      have := h 0 y rfl
      simp [World.cell?, Array.getElem?_eq_none (Nat.le_of_not_lt hb)] at this
theorem clone_tail {P : Program} {L : Lay} (hL : LayOk P L) {t el : TypeId} {ei : TI} (hei : L el = some ei) (hu : P.underlying t = some (.slice el)) (w : World) {ad : Addr} {m c : Nat} {news : List Value}
    (hone : Ones news) (hlen : news.length = m * ei.size) (hx : (m = 0 ∧ ∃ ad' c', Value.slice (some ad) m c = .slice ad' 0 c') ∨ ∃ b off c', Value.slice (some ad) m c = .slice (some ⟨b, off, none⟩) m c' ∧ w.rangeAt b off news ∧ m ≤ c')
    (hb : m * ei.bytes ≤ 140737488355328) (hm : m ≤ maxLen) (hpos : 0 < ei.size) : ∃ v' w', (Builtin.append_ #[t, t] t #[.slice (some { block := w.heap.size, off := 0 }) 0 0, .slice (some ad) m c]).run P (w.alloc (.cells #[] el)) = .ok v' w' ∧
      (Later w w' ∧ ((m = 0 ∧ ∃ ad, v' = .slice ad 0 0) ∨ ∃ b cap', v' = .slice (some ⟨b, 0, none⟩) m cap' ∧ RowAt w' b ei.size m cap' news ∧ w.heap.size ≤ b ∧ b < w'.heap.size)) := by
  have hrow : RowAt (w.alloc (.cells #[] el)) w.heap.size ei.size 0 0 [] := ⟨⟨#[], el, heap_alloc_new _ _, by simp, by simp⟩, Nat.le_refl _, Nat.zero_le _, hpos, (by intro y hy; simp at hy), by simp⟩
  have hx2 : (m = 0 ∧ ∃ ad' c', Value.slice (some ad) m c = .slice ad' 0 c') ∨ ∃ b off c', Value.slice (some ad) m c = .slice (some ⟨b, off, none⟩) m c' ∧ (w.alloc (.cells #[] el)).rangeAt b off news := by
    rcases hx with h | ⟨b, off, c', h1, h2, _⟩
    · exact .inl h
    · exact .inr ⟨b, off, c', h1, rangeAt_alloc h2⟩
  have hw := append_ways hL hei hu t (w := w.alloc (.cells #[] el)) (dv := .slice (some ⟨w.heap.size, 0, none⟩) 0 0) (n := 0) (cap := 0) (ys := []) (g := some w.heap.size) (.inr ⟨_, rfl, rfl, hrow⟩) (xv := .slice (some ad) m c) (m := m) (news := news) hone hlen hx2 (by simpa using hb) (by simpa using hm)
  obtain ⟨v', w', hr, hv⟩ := hw
  refine ⟨v', w', hr, ?_⟩
  rcases hv with ⟨h0, ⟨a0, rfl⟩, rfl⟩ | ⟨b, hb, rfl, h1, h2, h3, h4, h5, h6⟩ | ⟨cap', rfl, h1, h2, h3⟩
  · exact ⟨Later.alloc _ _, .inl ⟨by omega, _, rfl⟩⟩
  · cases hb
    have hm0 : m = 0 := by have := h1.le; omega
    subst hm0
    refine ⟨⟨by simp [h3], fun b hb => ?_, by rw [h4]; rfl, by rw [h5]; rfl, by rw [h6]; rfl⟩, .inl ⟨rfl, _, rfl⟩⟩
    rw [h2 b (by omega)]; exact (Later.alloc w _).2 b hb
  · simp only [Nat.zero_add, List.nil_append] at h1 ⊢
    exact ⟨(Later.alloc _ _).trans h2, .inr ⟨_, _, rfl, h1, by simp, h3⟩⟩
theorem len_of {m b : Nat} (h : m * b ≤ 140737488355328) (hb : 0 < b) : m ≤ maxLen := by
  have : m * 1 ≤ m * b := Nat.mul_le_mul_left _ hb
  simp only [maxLen]; omega
theorem wpList_four {P : Program} {w : World} {ops : Array Oper} {Q : Exit → Act → World → Prop} {x0 x2 x3 x4 u1 u5 u6 u7 s : Value} {t ty1 ty2 ty3 ty4 : TypeId} {p1 p2 p3 p4 : String} {a1 a2 a3 a4 : Array _}
    {v' : Value} {w' w1 : World} (hb : (Instr.buildSlice t 0 #[]).run P w = .ok s w1) (hr : (Builtin.append_ #[t, t] ty3 #[s, x0]).run P w1 = .ok v' w')
    (h : wpList P ops Q [] ⟨#[x0, u1, v', x3, x4, s, x0, v'], []⟩ w') : wpList P ops Q [{ dst := some 5, op := .buildSlice t 0 #[], type := ty1, pos := p1, after := a1, guard := none }, { dst := some 6, op := .move (.tmp 0), type := ty2, pos := p2, after := a2, guard := none },
      { dst := some 7, op := .call { callee := .builtin .append, args := #[.tmp 5, .tmp 6], argTypes := #[t, t] }, type := ty3, pos := p3, after := a3, guard := none }, { dst := some 2, op := .assign (.tmp 7), type := ty4, pos := p4, after := a4, guard := none }] ⟨#[x0, u1, x2, x3, x4, u5, u6, u7], []⟩ w := by
  refine wpList_plain rfl fun K hK => ?_
  unfold Oper.wp execOp
  simp only [List.map_toArray, List.map_nil, hb, Sem.run_bind, Sem.run_pure, Result.andThen_ok]
  refine hK _ _ (wpList_plain rfl fun K hK => ?_)
  unfold Oper.wp execOp
  simp only [Sem.run_pure]
  refine hK _ _ (wpList_plain rfl fun K hK => ?_)
  unfold Oper.wp execOp
  simp only [resolve, invoke, builtin, Sem.run_bind, Sem.run_pure, Result.andThen_ok, List.map_toArray, List.map_cons, List.map_nil, Act.put, Act.eval]
  change Oper.upon P _ _ K Q ((Sem.run P (Builtin.append_ #[t, t] ty3 #[s, x0]) w1).andThen _)
  rw [hr]
  refine hK _ _ (wpList_plain rfl fun K hK => ?_)
  unfold Oper.wp execOp
  simp only [Sem.run_pure]
  exact hK _ _ h
end Ve

/- Each copy of slices.Clone answers with a copy. -/
namespace Ve
open Go
set_option maxRecDepth 100000
theorem cl74 {L : Lay} (hL : LayOk Go.Proofs.Tryz.prog L) {ei : TI} (hei : L 44 = some ei) (hby : 0 < ei.bytes) (i : TypeInfo) (hi : Go.Proofs.Tryz.prog.info? 44 = some i) : CloneAt Go.Proofs.Tryz.prog 74 ei.size ei.bytes := by
  have q25 : ∀ (w : World) (a : Option Addr) (n c n' c' : Nat), (binOp .eql 25 (.slice a n c) (.slice none n' c')).run Go.Proofs.Tryz.prog w = .ok (.bool a.isNone) w := fun w a n c n' c' => Lib.run_eql_slice_nil w _ _ a n c n' c' Go.Proofs.Tryz.underlying25
  have qb := fun w => run_build0 (P := Go.Proofs.Tryz.prog) w 25 44 i Go.Proofs.Tryz.underlying25 hi
  intro w xv m news hone hlen hx hb hpos
  have hxs : ∃ a c, xv = .slice a m c ∧ (a = none → m = 0) := by
    rcases hx with ⟨rfl, ad, c, rfl⟩ | ⟨b, off, c, rfl, _, _⟩
    · exact ⟨ad, c, rfl, fun _ => rfl⟩
    · exact ⟨_, _, rfl, by simp⟩
  obtain ⟨a, c, rfl, ha⟩ := hxs
  cases a with
  | none =>
    have := ha rfl; subst this
    go_enter Go.Proofs.Tryz.func74, Go.Proofs.Tryz.ntmps74
    go_wp2
    go_ret
    exact ⟨Later.refl _, .inl ⟨_, rfl⟩⟩
  | some ad =>
    obtain ⟨v', w', hr, hv⟩ := clone_tail hL hei Go.Proofs.Tryz.underlying25 w hone hlen hx hb (len_of hb hby) hpos
    go_enter Go.Proofs.Tryz.func74, Go.Proofs.Tryz.ntmps74
    clear hx hone hlen hb hL hei hby hi ha
    go_wp2_with (refine wpList_four (qb _) hr ?_)
    go_ret
    exact hv
theorem clo74 : CloneAt Go.Proofs.Tryz.prog 74 17 184 := cl74 layOk (ei := y44) rfl (by decide) ((Go.Proofs.Tryz.prog.info? 44).get (by kernel_rfl)) (Option.some_get _).symm
theorem cl75 {L : Lay} (hL : LayOk Go.Proofs.Tryz.prog L) {ei : TI} (hei : L 68 = some ei) (hby : 0 < ei.bytes) (i : TypeInfo) (hi : Go.Proofs.Tryz.prog.info? 68 = some i) : CloneAt Go.Proofs.Tryz.prog 75 ei.size ei.bytes := by
  have q26 : ∀ (w : World) (a : Option Addr) (n c n' c' : Nat), (binOp .eql 26 (.slice a n c) (.slice none n' c')).run Go.Proofs.Tryz.prog w = .ok (.bool a.isNone) w := fun w a n c n' c' => Lib.run_eql_slice_nil w _ _ a n c n' c' Go.Proofs.Tryz.underlying26
  have qb := fun w => run_build0 (P := Go.Proofs.Tryz.prog) w 26 68 i Go.Proofs.Tryz.underlying26 hi
  intro w xv m news hone hlen hx hb hpos
  have hxs : ∃ a c, xv = .slice a m c ∧ (a = none → m = 0) := by
    rcases hx with ⟨rfl, ad, c, rfl⟩ | ⟨b, off, c, rfl, _, _⟩
    · exact ⟨ad, c, rfl, fun _ => rfl⟩
    · exact ⟨_, _, rfl, by simp⟩
  obtain ⟨a, c, rfl, ha⟩ := hxs
  cases a with
  | none =>
    have := ha rfl; subst this
    go_enter Go.Proofs.Tryz.func75, Go.Proofs.Tryz.ntmps75
    go_wp2
    go_ret
    exact ⟨Later.refl _, .inl ⟨_, rfl⟩⟩
  | some ad =>
    obtain ⟨v', w', hr, hv⟩ := clone_tail hL hei Go.Proofs.Tryz.underlying26 w hone hlen hx hb (len_of hb hby) hpos
    go_enter Go.Proofs.Tryz.func75, Go.Proofs.Tryz.ntmps75
    clear hx hone hlen hb hL hei hby hi ha
    go_wp2_with (refine wpList_four (qb _) hr ?_)
    go_ret
    exact hv
theorem clo75 : CloneAt Go.Proofs.Tryz.prog 75 4 32 := cl75 layOk (ei := y68) rfl (by decide) ((Go.Proofs.Tryz.prog.info? 68).get (by kernel_rfl)) (Option.some_get _).symm
theorem cl110 {L : Lay} (hL : LayOk Go.Proofs.Tryz.prog L) {ei : TI} (hei : L 59 = some ei) (hby : 0 < ei.bytes) (i : TypeInfo) (hi : Go.Proofs.Tryz.prog.info? 59 = some i) : CloneAt Go.Proofs.Tryz.prog 110 ei.size ei.bytes := by
  have q41 : ∀ (w : World) (a : Option Addr) (n c n' c' : Nat), (binOp .eql 41 (.slice a n c) (.slice none n' c')).run Go.Proofs.Tryz.prog w = .ok (.bool a.isNone) w := fun w a n c n' c' => Lib.run_eql_slice_nil w _ _ a n c n' c' Go.Proofs.Tryz.underlying41
  have qb := fun w => run_build0 (P := Go.Proofs.Tryz.prog) w 41 59 i Go.Proofs.Tryz.underlying41 hi
  intro w xv m news hone hlen hx hb hpos
  have hxs : ∃ a c, xv = .slice a m c ∧ (a = none → m = 0) := by
    rcases hx with ⟨rfl, ad, c, rfl⟩ | ⟨b, off, c, rfl, _, _⟩
    · exact ⟨ad, c, rfl, fun _ => rfl⟩
    · exact ⟨_, _, rfl, by simp⟩
  obtain ⟨a, c, rfl, ha⟩ := hxs
  cases a with
  | none =>
    have := ha rfl; subst this
    go_enter Go.Proofs.Tryz.func110, Go.Proofs.Tryz.ntmps110
    go_wp2
    go_ret
    exact ⟨Later.refl _, .inl ⟨_, rfl⟩⟩
  | some ad =>
    obtain ⟨v', w', hr, hv⟩ := clone_tail hL hei Go.Proofs.Tryz.underlying41 w hone hlen hx hb (len_of hb hby) hpos
    go_enter Go.Proofs.Tryz.func110, Go.Proofs.Tryz.ntmps110
    clear hx hone hlen hb hL hei hby hi ha
    go_wp2_with (refine wpList_four (qb _) hr ?_)
    go_ret
    exact hv
theorem clo110 : CloneAt Go.Proofs.Tryz.prog 110 3 24 := cl110 layOk (ei := y59) rfl (by decide) ((Go.Proofs.Tryz.prog.info? 59).get (by kernel_rfl)) (Option.some_get _).symm
theorem cl118 {L : Lay} (hL : LayOk Go.Proofs.Tryz.prog L) {ei : TI} (hei : L 54 = some ei) (hby : 0 < ei.bytes) (i : TypeInfo) (hi : Go.Proofs.Tryz.prog.info? 54 = some i) : CloneAt Go.Proofs.Tryz.prog 118 ei.size ei.bytes := by
  have q22 : ∀ (w : World) (a : Option Addr) (n c n' c' : Nat), (binOp .eql 22 (.slice a n c) (.slice none n' c')).run Go.Proofs.Tryz.prog w = .ok (.bool a.isNone) w := fun w a n c n' c' => Lib.run_eql_slice_nil w _ _ a n c n' c' Go.Proofs.Tryz.underlying22
  have qb := fun w => run_build0 (P := Go.Proofs.Tryz.prog) w 22 54 i Go.Proofs.Tryz.underlying22 hi
  intro w xv m news hone hlen hx hb hpos
  have hxs : ∃ a c, xv = .slice a m c ∧ (a = none → m = 0) := by
    rcases hx with ⟨rfl, ad, c, rfl⟩ | ⟨b, off, c, rfl, _, _⟩
    · exact ⟨ad, c, rfl, fun _ => rfl⟩
    · exact ⟨_, _, rfl, by simp⟩
  obtain ⟨a, c, rfl, ha⟩ := hxs
  cases a with
  | none =>
    have := ha rfl; subst this
    go_enter Go.Proofs.Tryz.func118, Go.Proofs.Tryz.ntmps118
    go_wp2
    go_ret
    exact ⟨Later.refl _, .inl ⟨_, rfl⟩⟩
  | some ad =>
    obtain ⟨v', w', hr, hv⟩ := clone_tail hL hei Go.Proofs.Tryz.underlying22 w hone hlen hx hb (len_of hb hby) hpos
    go_enter Go.Proofs.Tryz.func118, Go.Proofs.Tryz.ntmps118
    clear hx hone hlen hb hL hei hby hi ha
    go_wp2_with (refine wpList_four (qb _) hr ?_)
    go_ret
    exact hv
theorem clo118 : CloneAt Go.Proofs.Tryz.prog 118 3 24 := cl118 layOk (ei := y54) rfl (by decide) ((Go.Proofs.Tryz.prog.info? 54).get (by kernel_rfl)) (Option.some_get _).symm
theorem cl119 {L : Lay} (hL : LayOk Go.Proofs.Tryz.prog L) {ei : TI} (hei : L 57 = some ei) (hby : 0 < ei.bytes) (i : TypeInfo) (hi : Go.Proofs.Tryz.prog.info? 57 = some i) : CloneAt Go.Proofs.Tryz.prog 119 ei.size ei.bytes := by
  have q40 : ∀ (w : World) (a : Option Addr) (n c n' c' : Nat), (binOp .eql 40 (.slice a n c) (.slice none n' c')).run Go.Proofs.Tryz.prog w = .ok (.bool a.isNone) w := fun w a n c n' c' => Lib.run_eql_slice_nil w _ _ a n c n' c' Go.Proofs.Tryz.underlying40
  have qb := fun w => run_build0 (P := Go.Proofs.Tryz.prog) w 40 57 i Go.Proofs.Tryz.underlying40 hi
  intro w xv m news hone hlen hx hb hpos
  have hxs : ∃ a c, xv = .slice a m c ∧ (a = none → m = 0) := by
    rcases hx with ⟨rfl, ad, c, rfl⟩ | ⟨b, off, c, rfl, _, _⟩
    · exact ⟨ad, c, rfl, fun _ => rfl⟩
    · exact ⟨_, _, rfl, by simp⟩
  obtain ⟨a, c, rfl, ha⟩ := hxs
  cases a with
  | none =>
    have := ha rfl; subst this
    go_enter Go.Proofs.Tryz.func119, Go.Proofs.Tryz.ntmps119
    go_wp2
    go_ret
    exact ⟨Later.refl _, .inl ⟨_, rfl⟩⟩
  | some ad =>
    obtain ⟨v', w', hr, hv⟩ := clone_tail hL hei Go.Proofs.Tryz.underlying40 w hone hlen hx hb (len_of hb hby) hpos
    go_enter Go.Proofs.Tryz.func119, Go.Proofs.Tryz.ntmps119
    clear hx hone hlen hb hL hei hby hi ha
    go_wp2_with (refine wpList_four (qb _) hr ?_)
    go_ret
    exact hv
theorem clo119 : CloneAt Go.Proofs.Tryz.prog 119 4 32 := cl119 layOk (ei := y57) rfl (by decide) ((Go.Proofs.Tryz.prog.info? 57).get (by kernel_rfl)) (Option.some_get _).symm
theorem cl120 {L : Lay} (hL : LayOk Go.Proofs.Tryz.prog L) {ei : TI} (hei : L 65 = some ei) (hby : 0 < ei.bytes) (i : TypeInfo) (hi : Go.Proofs.Tryz.prog.info? 65 = some i) : CloneAt Go.Proofs.Tryz.prog 120 ei.size ei.bytes := by
  have q42 : ∀ (w : World) (a : Option Addr) (n c n' c' : Nat), (binOp .eql 42 (.slice a n c) (.slice none n' c')).run Go.Proofs.Tryz.prog w = .ok (.bool a.isNone) w := fun w a n c n' c' => Lib.run_eql_slice_nil w _ _ a n c n' c' Go.Proofs.Tryz.underlying42
  have qb := fun w => run_build0 (P := Go.Proofs.Tryz.prog) w 42 65 i Go.Proofs.Tryz.underlying42 hi
  intro w xv m news hone hlen hx hb hpos
  have hxs : ∃ a c, xv = .slice a m c ∧ (a = none → m = 0) := by
    rcases hx with ⟨rfl, ad, c, rfl⟩ | ⟨b, off, c, rfl, _, _⟩
    · exact ⟨ad, c, rfl, fun _ => rfl⟩
    · exact ⟨_, _, rfl, by simp⟩
  obtain ⟨a, c, rfl, ha⟩ := hxs
  cases a with
  | none =>
    have := ha rfl; subst this
    go_enter Go.Proofs.Tryz.func120, Go.Proofs.Tryz.ntmps120
    go_wp2
    go_ret
    exact ⟨Later.refl _, .inl ⟨_, rfl⟩⟩
  | some ad =>
    obtain ⟨v', w', hr, hv⟩ := clone_tail hL hei Go.Proofs.Tryz.underlying42 w hone hlen hx hb (len_of hb hby) hpos
    go_enter Go.Proofs.Tryz.func120, Go.Proofs.Tryz.ntmps120
    clear hx hone hlen hb hL hei hby hi ha
    go_wp2_with (refine wpList_four (qb _) hr ?_)
    go_ret
    exact hv
theorem clo120 : CloneAt Go.Proofs.Tryz.prog 120 3 24 := cl120 layOk (ei := y65) rfl (by decide) ((Go.Proofs.Tryz.prog.info? 65).get (by kernel_rfl)) (Option.some_get _).symm
def ClP (p : Nat × IFn) : Prop := ∀ sz bytes, p.2.clone = some (sz, bytes) → CloneAt Go.Proofs.Tryz.prog p.1 sz bytes
theorem cloneOk : CloneOk Go.Proofs.Tryz.prog tbl := by
  have this : ∀ p ∈ tblL, ClP p := by
    simp only [tblL, List.forall_mem_cons]
    exact ⟨(fun _ _ h => by cases h), (fun _ _ h => by cases h), (fun _ _ h => by cases h), (fun _ _ h => by cases h), (fun _ _ h => by cases h), (fun _ _ h => by cases h), (fun _ _ h => by cases h), (fun _ _ h => by cases h), (fun _ _ h => by cases h), (fun _ _ h => by cases h), (fun _ _ h => by cases h), (fun _ _ h => by cases h), (fun _ _ h => by cases h), (fun _ _ h => by cases h), (fun _ _ h => by cases h), (fun _ _ h => by cases h), (fun _ _ h => by cases h), (fun _ _ h => by cases h), (fun _ _ h => by cases h), (fun _ _ h => by cases h), (fun _ _ h => by cases h), (fun _ _ h => by cases h), (fun _ _ h => by cases h), (fun _ _ h => by cases h), (fun _ _ h => by cases h), (fun _ _ h => by cases h), (fun _ _ h => by cases h), (fun _ _ h => by cases h), (fun _ _ h => by cases h), (fun _ _ h => by cases h), (fun _ _ h => by cases h), (fun _ _ h => by cases h), (fun _ _ h => by cases h), (fun _ _ h => by cases h), (fun _ _ h => by cases h), (fun _ _ h => by cases h), (fun _ _ h => by cases h), (fun _ _ h => by cases h), (fun _ _ h => by cases h), (fun _ _ h => by cases h), (fun _ _ h => by cases h), (fun _ _ h => by cases h), (fun _ _ h => by cases h), (fun _ _ h => by cases h), (fun _ _ h => by cases h), (fun _ _ h => by cases h), (fun _ _ h => by cases h), (fun _ _ h => by cases h), (fun _ _ h => by cases h), (fun _ _ h => by cases h), (fun _ _ h => by cases h), (fun _ _ h => by cases h), (fun _ _ h => by cases h), (fun _ _ h => by cases h), (fun _ _ h => by cases h), (fun _ _ h => by cases h), (fun _ _ h => by cases h), (fun _ _ h => by cases h), (fun _ _ h => by cases h), (fun _ _ h => by cases h), (fun _ _ h => by cases h), (fun _ _ h => by cases h), (fun _ _ h => by cases h), (fun _ _ h => by cases h), (fun _ _ h => by cases h), (fun _ _ h => by cases h), (fun _ _ h => by cases h), (fun _ _ h => by cases h), (fun _ _ h => by cases h), (fun _ _ h => by cases h), (fun _ _ h => by cases h), (fun _ _ h => by cases h; exact clo74), (fun _ _ h => by cases h; exact clo75), (fun _ _ h => by cases h), (fun _ _ h => by cases h), (fun _ _ h => by cases h), (fun _ _ h => by cases h), (fun _ _ h => by cases h), (fun _ _ h => by cases h), (fun _ _ h => by cases h), (fun _ _ h => by cases h), (fun _ _ h => by cases h), (fun _ _ h => by cases h), (fun _ _ h => by cases h), (fun _ _ h => by cases h), (fun _ _ h => by cases h), (fun _ _ h => by cases h), (fun _ _ h => by cases h), (fun _ _ h => by cases h), (fun _ _ h => by cases h), (fun _ _ h => by cases h), (fun _ _ h => by cases h), (fun _ _ h => by cases h), (fun _ _ h => by cases h), (fun _ _ h => by cases h), (fun _ _ h => by cases h), (fun _ _ h => by cases h), (fun _ _ h => by cases h), (fun _ _ h => by cases h), (fun _ _ h => by cases h), (fun _ _ h => by cases h), (fun _ _ h => by cases h), (fun _ _ h => by cases h), (fun _ _ h => by cases h), (fun _ _ h => by cases h), (fun _ _ h => by cases h), (fun _ _ h => by cases h), (fun _ _ h => by cases h; exact clo110), (fun _ _ h => by cases h), (fun _ _ h => by cases h), (fun _ _ h => by cases h), (fun _ _ h => by cases h), (fun _ _ h => by cases h), (fun _ _ h => by cases h), (fun _ _ h => by cases h), (fun _ _ h => by cases h; exact clo118), (fun _ _ h => by cases h; exact clo119), (fun _ _ h => by cases h; exact clo120), (fun _ _ h => by cases h), (fun _ _ h => by cases h), (fun _ _ h => by cases h), (fun _ _ h => by cases h), (fun _ _ h => by cases h), (fun _ _ h => by cases h), (fun _ _ h => by cases h), (fun _ _ h => by cases h), (fun _ _ h => by cases h), (fun _ _ h => by cases h), (fun _ _ h => by cases h), (fun _ _ h => by cases h), (fun _ _ h => by cases h), (fun _ _ h => by cases h), (fun _ _ h => by cases h), (fun _ _ h => by cases h), (fun _ _ h => by cases h), (fun _ _ h => by cases h), (fun _ _ h => by cases h), (fun _ _ h => by cases h), (fun _ _ h => by cases h), (fun _ _ h => by cases h), (fun _ _ h => by cases h), (fun _ _ h => by cases h), (fun _ _ h => by cases h), (fun _ _ h => by cases h), (fun _ _ h => by cases h), (fun _ _ h => by cases h), (fun _ _ h => by cases h), (fun _ _ h => by cases h), (fun _ _ h => by cases h), (fun _ _ h => by cases h), (fun _ _ h => by cases h), (fun _ _ h => by cases h), (fun _ _ h => by cases h), (fun _ _ h => by cases h), (fun _ _ h => by cases h), (fun _ _ h => by cases h), (fun _ _ h => by cases h), (fun _ _ h => by cases h), (fun _ _ h => by cases h), (fun _ _ h => by cases h), (fun _ _ h => by cases h), (fun _ _ h => by cases h), (fun _ _ h => by cases h), (fun _ _ h => by cases h), (fun _ _ h => by cases h), (fun _ _ h => by cases h), (fun _ _ h => by cases h), (fun _ _ h => by cases h), (fun _ _ h => by cases h), (fun _ _ h => by cases h), (fun _ _ h => by cases h), (fun _ _ h => by cases h), (fun _ _ h => by cases h), (fun _ _ h => by cases h), (fun _ _ h => by cases h), (fun _ _ h => by cases h), (fun _ _ h => by cases h), (fun _ _ h => by cases h), (fun _ _ h => by cases h), (fun _ _ h => by cases h), fun p hp => by cases hp⟩
  exact fun f d sz bytes h hc => this (f, d) (lk_mem h) sz bytes hc
theorem tieOk : Tie Go.Proofs.Tryz.prog ctx := ⟨layOk, by kernel_rfl, cloneOk, fnsOk⟩
end Ve
