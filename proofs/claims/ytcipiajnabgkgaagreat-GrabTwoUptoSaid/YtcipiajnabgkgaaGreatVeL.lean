/- What a program's types must be for the evaluator: lemmas. -/
import Derived.Test.YtcipiajnabgkgaaGreatVeC
import Derived.Laws.StructEq
import Derived.ChangeKeysEq
import Derived.Test.YtcipiajnabgkgaaGreatVeT
import Derived.Test.YtcipiajnabgkgaaGreatProg
import Derived.KernelRfl
import Derived.Test.YtcipiajnabgkgaaGreatVeM
import Derived.WalkKit
import Derived.ProofKit
import Derived.Lib.SliceRun
set_option linter.all false
set_option linter.unusedSectionVars false
namespace Ve
open Go
theorem str_of {P : Program} : ∀ {fields : List Field} {fs : List (Nat × Nat)}, fields.mapM (fun f => (P.info? f.type).map fun i => (f.offset, i.size)) = some fs → (fs.all fun p => p.2 != 0) = true →
    ∀ (j : Nat) (p : Nat × Nat), fs[j]? = some p → ∃ f : Field, fields[j]? = some f ∧ f.offset = p.1 ∧ (∃ i, P.info? f.type = some i ∧ i.size = p.2) ∧ p.2 ≠ 0
  | [], fs, h, hz, j, p, hj => by simp at h; subst h; simp at hj
  | f :: fields, fs, h, hz, j, p, hj => by
    simp only [List.mapM_cons, Option.bind_eq_bind, Option.bind_eq_some_iff, Option.map_eq_some_iff] at h
    obtain ⟨q, ⟨i, hi, rfl⟩, r, hr, h⟩ := h
    simp only [Option.pure_def, Option.some.injEq] at h
    subst h
    simp only [List.all_cons, Bool.and_eq_true] at hz
    cases j with
    | zero => simp at hj; subst hj; exact ⟨f, rfl, rfl, ⟨i, hi, rfl⟩, by simpa using hz.1⟩
    | succ j => simpa using str_of hr hz.2 j p (by simpa using hj)
theorem fty_of {P : Program} {t : TypeId} {ft : List TypeId} {fields0 : Array Field} (h0 : P.underlying t = some (.struct fields0)) (h1 : fields0.toList.map (·.type) = ft) :
    ∀ fields, P.underlying t = some (.struct fields) → ∀ (j : Nat) (u : TypeId), ft[j]? = some u → ∃ f : Field, fields[j]? = some f ∧ f.type = u := by
  intro fields hf j u hj
  rw [h0] at hf
  cases hf
  subst h1
  rw [List.getElem?_map, Option.map_eq_some_iff] at hj
  obtain ⟨f, hf, rfl⟩ := hj
  exact ⟨f, by simpa using hf, rfl⟩
theorem eqc_inv {a b : Value} {xs ys : List Value} {r : Bool} (h : eqCells (V.lit a :: xs.map V.lit) (V.lit b :: ys.map V.lit) = some r) :
    ∃ k x y z, a = .int k x ∧ b = .int k y ∧ eqCells (xs.map V.lit) (ys.map V.lit) = some z ∧ r = (decide (x = y) && z) := by
  simp only [eqCells] at h
  split at h
  · rename_i x z hx hz
    simp only [Option.some.injEq] at h
    unfold cellEq at hx
    split at hx
    · rename_i e1 e2
      cases e1; cases e2
      split at hx
      · rename_i hk; subst hk
        simp only [Option.some.injEq] at hx
        exact ⟨_, _, _, z, rfl, rfl, hz, by rw [← h, ← hx]⟩
      · cases hx
    · cases hx
  · cases h
theorem eqc_cons {xs ys : List Value} {r : Bool} (h : eqCells (xs.map V.lit) (ys.map V.lit) = some r) (hl : 0 < xs.length) :
    ∃ k x y z xs' ys', xs = .int k x :: xs' ∧ ys = .int k y :: ys' ∧ eqCells (xs'.map V.lit) (ys'.map V.lit) = some z ∧ r = (decide (x = y) && z) := by
  cases xs with
  | nil => simp at hl
  | cons a xs =>
    cases ys with
    | nil => simp [eqCells] at h
    | cons b ys =>
      obtain ⟨k, x, y, z, rfl, rfl, hz, hr⟩ := eqc_inv h
      exact ⟨k, x, y, z, xs, ys, rfl, rfl, hz, hr⟩
theorem run_part_int {P : Program} (w : World) {t : TypeId} {k : IntKind} (ht : P.underlying t = some (.int k)) {xs : Array Value} {off : Nat} {v : Value} (hx : xs[off]? = some v) : (part t xs off).run P w = .ok v w := by
  simp [part, isAgg, run_underlying ht, hx]
/-- a struct of integers, one behind another -/
def intFields (P : Program) : Nat → List Field → Bool
  | _, [] => true
  | j, f :: r => (f.name != "_") && (f.offset == j) && (match P.underlying f.type with | some (.int _) => true | _ => false) && intFields P (j + 1) r
theorem eqFields_ok {P : Program} (w : World) (d : Nat) : ∀ (fs : List Field) (px py xs ys : List Value) (r : Bool), px.length = py.length → intFields P px.length fs = true → xs.length = fs.length → eqCells (xs.map V.lit) (ys.map V.lit) = some r →
    (Op.eqFields (d + 1) (px ++ xs).toArray (py ++ ys).toArray fs).run P w = .ok r w
  | [], px, py, xs, ys, r, hp, hf, hl, h => by
    have : xs = [] := by simpa using hl
    subst this
    cases ys with
    | nil => simp [eqCells] at h; subst h; simp [Op.eqFields]
    | cons b ys => simp [eqCells] at h
  | f :: fs, px, py, xs, ys, r, hp, hf, hl, h => by
    obtain ⟨k, x, y, z, xs', ys', rfl, rfl, hz, rfl⟩ := eqc_cons h (by simp at hl; omega)
    simp only [intFields, Bool.and_eq_true, bne_iff_ne, ne_eq, beq_iff_eq] at hf
    obtain ⟨⟨⟨h1, h2⟩, h3⟩, h4⟩ := hf
    cases hu : P.underlying f.type with
    | none => simp [hu] at h3
    | some dd =>
      cases dd <;> simp [hu] at h3
      rename_i kk
      have ih := eqFields_ok w d fs (px ++ [.int k x]) (py ++ [.int k y]) xs' ys' z (by simp [hp]) (by simpa using h4) (by simpa using hl) hz
      have e1 : (px ++ Value.int k x :: xs').toArray[f.offset]? = some (.int k x) := by simp [h2]
      have e2 : (py ++ Value.int k y :: ys').toArray[f.offset]? = some (.int k y) := by simp [h2, hp]
      simp only [Op.eqFields, ne_eq, h1, not_false_eq_true, if_true, Sem.run_bind, run_part_int w hu e1, run_part_int w hu e2, Result.andThen_ok, run_equalIn_int w d f.type k kk x y hu]
      by_cases hxy : x = y
      · subst hxy
        simp only [beq_self_eq_true, Bool.not_true, Bool.false_eq_true, if_false, decide_true, Bool.true_and]
        simpa using ih
      · simp [hxy]
theorem eqItems_ok {P : Program} (w : World) (d : Nat) {e : TypeId} {k0 : IntKind} (he : P.underlying e = some (.int k0)) : ∀ (n j : Nat) (px py xs ys : List Value) (r : Bool), px.length = j → py.length = j → xs.length = n → eqCells (xs.map V.lit) (ys.map V.lit) = some r →
    (Op.eqItems (d + 1) e 1 (px ++ xs).toArray (py ++ ys).toArray (List.range' j n)).run P w = .ok r w
  | 0, j, px, py, xs, ys, r, hp, hp', hl, h => by
    have : xs = [] := by simpa using hl
    subst this
    cases ys with
    | nil => simp [eqCells] at h; subst h; simp [Op.eqItems]
    | cons b ys => simp [eqCells] at h
  | n + 1, j, px, py, xs, ys, r, hp, hp', hl, h => by
    obtain ⟨k, x, y, z, xs', ys', rfl, rfl, hz, rfl⟩ := eqc_cons h (by omega)
    have ih := eqItems_ok w d he n (j + 1) (px ++ [.int k x]) (py ++ [.int k y]) xs' ys' z (by simp [hp]) (by simp [hp']) (by simpa using hl) hz
    have e1 : (px ++ Value.int k x :: xs').toArray[j * 1]? = some (.int k x) := by simp [hp]
    have e2 : (py ++ Value.int k y :: ys').toArray[j * 1]? = some (.int k y) := by simp [hp']
    simp only [List.range'_succ, Op.eqItems, Sem.run_bind, run_part_int w he e1, run_part_int w he e2, Result.andThen_ok, run_equalIn_int w d e k k0 x y he]
    by_cases hxy : x = y
    · subst hxy
      simp only [beq_self_eq_true, Bool.not_true, Bool.false_eq_true, if_false, decide_true, Bool.true_and]
      simpa using ih
    · simp [hxy]
abbrev PlainAt (P : Program) (t : TypeId) (size : Nat) : Prop := ∀ (xs ys : List Value) (r : Bool), eqCells (xs.map V.lit) (ys.map V.lit) = some r → xs.length = size → ∀ (x y : Operand) (w : World),
    ((do eqGuard .eql t x y (.agg xs.toArray) (.agg ys.toArray); binOp .eql t (.agg xs.toArray) (.agg ys.toArray) : Sem Value)).run P w = .ok (.bool r) w ∧
    ((do eqGuard .neq t x y (.agg xs.toArray) (.agg ys.toArray); binOp .neq t (.agg xs.toArray) (.agg ys.toArray) : Sem Value)).run P w = .ok (.bool (!r)) w
theorem plain_of {P : Program} {t : TypeId} {size : Nat} (hm : P.eqGuardType P.depth t = false) (h : ∀ (xs ys : List Value) (r : Bool), eqCells (xs.map V.lit) (ys.map V.lit) = some r → xs.length = size → ∀ w, (Op.equalIn 10000 t (.agg xs.toArray) (.agg ys.toArray)).run P w = .ok r w) : PlainAt P t size := by
  intro xs ys r he hl x y w
  have := h xs ys r he hl w
  constructor
  · simp only [Sem.run_bind, run_eqGuard_agg w _ t x y _ _ hm, Result.andThen_ok, run_eql_struct, this]
  · simp only [Sem.run_bind, run_eqGuard_agg w _ t x y _ _ hm, Result.andThen_ok, run_neq_struct, this]
theorem plain_struct {P : Program} {t : TypeId} {size : Nat} (hm : P.eqGuardType P.depth t = false) (ht : P.underlying t = some (.struct (P.fieldsOf t))) (hp : P.stoodInHeld t = false) (hf : intFields P 0 (P.fieldsOf t).toList = true) (hl : (P.fieldsOf t).toList.length = size) : PlainAt P t size :=
  plain_of hm fun xs ys r he hs w => by
    rw [show (10000 : Nat) = 9998 + 1 + 1 from rfl, run_equalIn_agg w (9998 + 1) t _ _ ht hp]
    exact eqFields_ok w 9998 _ [] [] xs ys r rfl hf (by omega) he
theorem plain_arr {P : Program} {t e : TypeId} {n : Nat} {k : IntKind} {i : TypeInfo} (hm : P.eqGuardType P.depth t = false) (ht : P.underlying t = some (.array n e)) (hi : P.info? e = some i) (he : P.underlying e = some (.int k)) (hc : P.cellsOf e = 1) : PlainAt P t n :=
  plain_of hm fun xs ys r hq hs w => by
    rw [show (10000 : Nat) = 9998 + 1 + 1 from rfl, run_equalIn_array w (9998 + 1) _ _ ht hi, hc, List.range_eq_range']
    exact eqItems_ok w 9998 he n 0 [] [] xs ys r rfl rfl hs hq
theorem rs_agg0 {E : Env} {m : Md} {cs : List V} {ys : List Value} {vs : List V} {xs : List Value} (h : Rs E m cs ys []) (h' : Rs E m vs xs []) : Rs E m (.agg cs :: vs) (.agg ys.toArray :: xs) [] := Rs.agg h h'
end Ve

/- Each type of the tables is the program's. -/
namespace Ve
open Go
set_option maxRecDepth 10000
theorem ly1 : TiOk Go.Proofs.Tryz.prog lay 1 y1 :=
  ⟨⟨(Go.Proofs.Tryz.prog.info? 1).get (by kernel_rfl), (Option.some_get _).symm, by kernel_rfl, by kernel_rfl, (.nilFunc), by kernel_rfl, (fun E => (.lit .nil))⟩, by decide, by decide, rfl, by decide, rfl, ⟨(Go.Proofs.Tryz.prog.underlying 1).get (by kernel_rfl), (Option.some_get _).symm, by kernel_rfl⟩,
   (fun fs h => by cases h), (fun n el h => by cases h), (fun fs h => by cases h), (fun el h => by cases h), (fun k h => by cases h), (fun h => by cases h), (fun h => by cases h)⟩
theorem ly2 : TiOk Go.Proofs.Tryz.prog lay 2 y2 :=
  ⟨⟨(Go.Proofs.Tryz.prog.info? 2).get (by kernel_rfl), (Option.some_get _).symm, by kernel_rfl, by kernel_rfl, (.int .i64 0), by kernel_rfl, (fun E => (.lit .nil))⟩, by decide, by decide, rfl, by decide, rfl, ⟨(Go.Proofs.Tryz.prog.underlying 2).get (by kernel_rfl), (Option.some_get _).symm, by kernel_rfl⟩,
   (fun fs h => by cases h), (fun n el h => by cases h), (fun fs h => by cases h), (fun el h => by cases h), (fun k h => by cases h; kernel_rfl), (fun h => by cases h), (fun h => by cases h)⟩
theorem ly3 : TiOk Go.Proofs.Tryz.prog lay 3 y3 :=
  ⟨⟨(Go.Proofs.Tryz.prog.info? 3).get (by kernel_rfl), (Option.some_get _).symm, by kernel_rfl, by kernel_rfl, (.int .i64 0), by kernel_rfl, (fun E => (.lit .nil))⟩, by decide, by decide, rfl, by decide, rfl, ⟨(Go.Proofs.Tryz.prog.underlying 3).get (by kernel_rfl), (Option.some_get _).symm, by kernel_rfl⟩,
   (fun fs h => by cases h), (fun n el h => by cases h), (fun fs h => by cases h), (fun el h => by cases h), (fun k h => by cases h; kernel_rfl), (fun h => by cases h), (fun h => by cases h)⟩
theorem ly4 : TiOk Go.Proofs.Tryz.prog lay 4 y4 :=
  ⟨⟨(Go.Proofs.Tryz.prog.info? 4).get (by kernel_rfl), (Option.some_get _).symm, by kernel_rfl, by kernel_rfl, (.bool false), by kernel_rfl, (fun E => (.lit .nil))⟩, by decide, by decide, rfl, by decide, rfl, ⟨(Go.Proofs.Tryz.prog.underlying 4).get (by kernel_rfl), (Option.some_get _).symm, by kernel_rfl⟩,
   (fun fs h => by cases h), (fun n el h => by cases h), (fun fs h => by cases h), (fun el h => by cases h), (fun k h => by cases h), (fun h => by kernel_rfl), (fun h => by cases h)⟩
theorem ly5 : TiOk Go.Proofs.Tryz.prog lay 5 y5 :=
  ⟨⟨(Go.Proofs.Tryz.prog.info? 5).get (by kernel_rfl), (Option.some_get _).symm, by kernel_rfl, by kernel_rfl, (.int .u8 0), by kernel_rfl, (fun E => (.lit .nil))⟩, by decide, by decide, rfl, by decide, rfl, ⟨(Go.Proofs.Tryz.prog.underlying 5).get (by kernel_rfl), (Option.some_get _).symm, by kernel_rfl⟩,
   (fun fs h => by cases h), (fun n el h => by cases h), (fun fs h => by cases h), (fun el h => by cases h), (fun k h => by cases h; kernel_rfl), (fun h => by cases h), (fun h => by cases h)⟩
theorem ly6 : TiOk Go.Proofs.Tryz.prog lay 6 y6 :=
  ⟨⟨(Go.Proofs.Tryz.prog.info? 6).get (by kernel_rfl), (Option.some_get _).symm, by kernel_rfl, by kernel_rfl, (.int .u8 0), by kernel_rfl, (fun E => (.lit .nil))⟩, by decide, by decide, rfl, by decide, rfl, ⟨(Go.Proofs.Tryz.prog.underlying 6).get (by kernel_rfl), (Option.some_get _).symm, by kernel_rfl⟩,
   (fun fs h => by cases h), (fun n el h => by cases h), (fun fs h => by cases h), (fun el h => by cases h), (fun k h => by cases h; kernel_rfl), (fun h => by cases h), (fun h => by cases h)⟩
theorem ly7 : TiOk Go.Proofs.Tryz.prog lay 7 y7 :=
  ⟨⟨(Go.Proofs.Tryz.prog.info? 7).get (by kernel_rfl), (Option.some_get _).symm, by kernel_rfl, by kernel_rfl, (.agg #[.int .i64 0, .int .i64 0, .bool false, .int .u8 0]), by kernel_rfl, (fun E => (rs_agg0 (.lit (.lit (.lit (.lit .nil)))) .nil))⟩, by decide, by decide, rfl, by decide, rfl, ⟨(Go.Proofs.Tryz.prog.underlying 7).get (by kernel_rfl), (Option.some_get _).symm, by kernel_rfl⟩,
   (fun fs h => by cases h; exact ⟨Go.Proofs.Tryz.prog.fieldsOf 7, by kernel_rfl, by kernel_rfl, fun j p hj => by simpa using str_of (fields := (Go.Proofs.Tryz.prog.fieldsOf 7).toList) (by kernel_rfl) (by decide) j p hj⟩), (fun n el h => by cases h), (fun fs h => by cases h; exact fty_of (fields0 := Go.Proofs.Tryz.prog.fieldsOf 7) (by kernel_rfl) (by kernel_rfl)), (fun el h => by cases h), (fun k h => by cases h), (fun h => by cases h), (fun h => by cases h)⟩
theorem ly8 : TiOk Go.Proofs.Tryz.prog lay 8 y8 :=
  ⟨⟨(Go.Proofs.Tryz.prog.info? 8).get (by kernel_rfl), (Option.some_get _).symm, by kernel_rfl, by kernel_rfl, (.agg #[.int .i64 0, .int .i64 0, .bool false, .int .u8 0]), by kernel_rfl, (fun E => (rs_agg0 (.lit (.lit (.lit (.lit .nil)))) .nil))⟩, by decide, by decide, rfl, by decide, rfl, ⟨(Go.Proofs.Tryz.prog.underlying 8).get (by kernel_rfl), (Option.some_get _).symm, by kernel_rfl⟩,
   (fun fs h => by cases h; exact ⟨Go.Proofs.Tryz.prog.fieldsOf 8, by kernel_rfl, by kernel_rfl, fun j p hj => by simpa using str_of (fields := (Go.Proofs.Tryz.prog.fieldsOf 8).toList) (by kernel_rfl) (by decide) j p hj⟩), (fun n el h => by cases h), (fun fs h => by cases h; exact fty_of (fields0 := Go.Proofs.Tryz.prog.fieldsOf 8) (by kernel_rfl) (by kernel_rfl)), (fun el h => by cases h), (fun k h => by cases h), (fun h => by cases h), (fun h => by cases h)⟩
theorem ly9 : TiOk Go.Proofs.Tryz.prog lay 9 y9 :=
  ⟨⟨(Go.Proofs.Tryz.prog.info? 9).get (by kernel_rfl), (Option.some_get _).symm, by kernel_rfl, by kernel_rfl, (.string ⟨#[]⟩), by kernel_rfl, (fun E => (.lit .nil))⟩, by decide, by decide, rfl, by decide, rfl, ⟨(Go.Proofs.Tryz.prog.underlying 9).get (by kernel_rfl), (Option.some_get _).symm, by kernel_rfl⟩,
   (fun fs h => by cases h), (fun n el h => by cases h), (fun fs h => by cases h), (fun el h => by cases h), (fun k h => by cases h), (fun h => by cases h), (fun h => by cases h)⟩
theorem ly10 : TiOk Go.Proofs.Tryz.prog lay 10 y10 :=
  ⟨⟨(Go.Proofs.Tryz.prog.info? 10).get (by kernel_rfl), (Option.some_get _).symm, by kernel_rfl, by kernel_rfl, (.string ⟨#[]⟩), by kernel_rfl, (fun E => (.lit .nil))⟩, by decide, by decide, rfl, by decide, rfl, ⟨(Go.Proofs.Tryz.prog.underlying 10).get (by kernel_rfl), (Option.some_get _).symm, by kernel_rfl⟩,
   (fun fs h => by cases h), (fun n el h => by cases h), (fun fs h => by cases h), (fun el h => by cases h), (fun k h => by cases h), (fun h => by cases h), (fun h => by cases h)⟩
theorem ly11 : TiOk Go.Proofs.Tryz.prog lay 11 y11 :=
  ⟨⟨(Go.Proofs.Tryz.prog.info? 11).get (by kernel_rfl), (Option.some_get _).symm, by kernel_rfl, by kernel_rfl, (.string ⟨#[]⟩), by kernel_rfl, (fun E => (.lit .nil))⟩, by decide, by decide, rfl, by decide, rfl, ⟨(Go.Proofs.Tryz.prog.underlying 11).get (by kernel_rfl), (Option.some_get _).symm, by kernel_rfl⟩,
   (fun fs h => by cases h), (fun n el h => by cases h), (fun fs h => by cases h), (fun el h => by cases h), (fun k h => by cases h), (fun h => by cases h), (fun h => by cases h)⟩
theorem ly12 : TiOk Go.Proofs.Tryz.prog lay 12 y12 :=
  ⟨⟨(Go.Proofs.Tryz.prog.info? 12).get (by kernel_rfl), (Option.some_get _).symm, by kernel_rfl, by kernel_rfl, (.int .u64 0), by kernel_rfl, (fun E => (.lit .nil))⟩, by decide, by decide, rfl, by decide, rfl, ⟨(Go.Proofs.Tryz.prog.underlying 12).get (by kernel_rfl), (Option.some_get _).symm, by kernel_rfl⟩,
   (fun fs h => by cases h), (fun n el h => by cases h), (fun fs h => by cases h), (fun el h => by cases h), (fun k h => by cases h; kernel_rfl), (fun h => by cases h), (fun h => by cases h)⟩
theorem ly13 : TiOk Go.Proofs.Tryz.prog lay 13 y13 :=
  ⟨⟨(Go.Proofs.Tryz.prog.info? 13).get (by kernel_rfl), (Option.some_get _).symm, by kernel_rfl, by kernel_rfl, (.agg #[.string ⟨#[]⟩, .int .u64 0]), by kernel_rfl, (fun E => (rs_agg0 (.lit (.lit .nil)) .nil))⟩, by decide, by decide, rfl, by decide, rfl, ⟨(Go.Proofs.Tryz.prog.underlying 13).get (by kernel_rfl), (Option.some_get _).symm, by kernel_rfl⟩,
   (fun fs h => by cases h; exact ⟨Go.Proofs.Tryz.prog.fieldsOf 13, by kernel_rfl, by kernel_rfl, fun j p hj => by simpa using str_of (fields := (Go.Proofs.Tryz.prog.fieldsOf 13).toList) (by kernel_rfl) (by decide) j p hj⟩), (fun n el h => by cases h), (fun fs h => by cases h; exact fty_of (fields0 := Go.Proofs.Tryz.prog.fieldsOf 13) (by kernel_rfl) (by kernel_rfl)), (fun el h => by cases h), (fun k h => by cases h), (fun h => by cases h), (fun h => by cases h)⟩
theorem ly23 : TiOk Go.Proofs.Tryz.prog lay 23 y23 :=
  ⟨⟨(Go.Proofs.Tryz.prog.info? 23).get (by kernel_rfl), (Option.some_get _).symm, by kernel_rfl, by kernel_rfl, (.slice none 0 0), by kernel_rfl, (fun E => (.own0 (by decide) .nil))⟩, by decide, by decide, rfl, by decide, rfl, ⟨(Go.Proofs.Tryz.prog.underlying 23).get (by kernel_rfl), (Option.some_get _).symm, by kernel_rfl⟩,
   (fun fs h => by cases h), (fun n el h => by cases h), (fun fs h => by cases h), (fun el h => by cases h; kernel_rfl), (fun k h => by cases h), (fun h => by cases h), (fun h => by cases h)⟩
theorem ly24 : TiOk Go.Proofs.Tryz.prog lay 24 y24 :=
  ⟨⟨(Go.Proofs.Tryz.prog.info? 24).get (by kernel_rfl), (Option.some_get _).symm, by kernel_rfl, by kernel_rfl, (.agg #[.slice none 0 0, .slice none 0 0, .slice none 0 0, .slice none 0 0]), by kernel_rfl, (fun E => (rs_agg0 (.own0 (by decide) (.own0 (by decide) (.own0 (by decide) (.own0 (by decide) .nil)))) .nil))⟩, by decide, by decide, rfl, by decide, rfl, ⟨(Go.Proofs.Tryz.prog.underlying 24).get (by kernel_rfl), (Option.some_get _).symm, by kernel_rfl⟩,
   (fun fs h => by cases h), (fun n el h => by cases h; kernel_rfl), (fun fs h => by cases h), (fun el h => by cases h), (fun k h => by cases h), (fun h => by cases h), (fun h => by cases h)⟩
theorem ly25 : TiOk Go.Proofs.Tryz.prog lay 25 y25 :=
  ⟨⟨(Go.Proofs.Tryz.prog.info? 25).get (by kernel_rfl), (Option.some_get _).symm, by kernel_rfl, by kernel_rfl, (.agg #[.int .i64 0, .int .i64 0, .int .i64 0, .int .i64 0]), by kernel_rfl, (fun E => (rs_agg0 (.lit (.lit (.lit (.lit .nil)))) .nil))⟩, by decide, by decide, rfl, by decide, rfl, ⟨(Go.Proofs.Tryz.prog.underlying 25).get (by kernel_rfl), (Option.some_get _).symm, by kernel_rfl⟩,
   (fun fs h => by cases h), (fun n el h => by cases h; kernel_rfl), (fun fs h => by cases h), (fun el h => by cases h), (fun k h => by cases h), (fun h => by cases h), (fun _ => plain_arr (k := .i64) (i := (Go.Proofs.Tryz.prog.info? 3).get (by kernel_rfl)) (by kernel_rfl) (by kernel_rfl) (Option.some_get _).symm (by kernel_rfl) (by kernel_rfl))⟩
theorem ly26 : TiOk Go.Proofs.Tryz.prog lay 26 y26 :=
  ⟨⟨(Go.Proofs.Tryz.prog.info? 26).get (by kernel_rfl), (Option.some_get _).symm, by kernel_rfl, by kernel_rfl, (.slice none 0 0), by kernel_rfl, (fun E => (.own0 (by decide) .nil))⟩, by decide, by decide, rfl, by decide, rfl, ⟨(Go.Proofs.Tryz.prog.underlying 26).get (by kernel_rfl), (Option.some_get _).symm, by kernel_rfl⟩,
   (fun fs h => by cases h), (fun n el h => by cases h), (fun fs h => by cases h), (fun el h => by cases h; kernel_rfl), (fun k h => by cases h), (fun h => by cases h), (fun h => by cases h)⟩
theorem ly27 : TiOk Go.Proofs.Tryz.prog lay 27 y27 :=
  ⟨⟨(Go.Proofs.Tryz.prog.info? 27).get (by kernel_rfl), (Option.some_get _).symm, by kernel_rfl, by kernel_rfl, (.slice none 0 0), by kernel_rfl, (fun E => (.own0 (by decide) .nil))⟩, by decide, by decide, rfl, by decide, rfl, ⟨(Go.Proofs.Tryz.prog.underlying 27).get (by kernel_rfl), (Option.some_get _).symm, by kernel_rfl⟩,
   (fun fs h => by cases h), (fun n el h => by cases h), (fun fs h => by cases h), (fun el h => by cases h; kernel_rfl), (fun k h => by cases h), (fun h => by cases h), (fun h => by cases h)⟩
theorem ly29 : TiOk Go.Proofs.Tryz.prog lay 29 y29 :=
  ⟨⟨(Go.Proofs.Tryz.prog.info? 29).get (by kernel_rfl), (Option.some_get _).symm, by kernel_rfl, by kernel_rfl, (.agg #[.slice none 0 0, .slice none 0 0, .slice none 0 0, .slice none 0 0, .int .i64 0, .int .i64 0, .int .i64 0, .int .i64 0, .int .i64 0, .slice none 0 0, .slice none 0 0]), by kernel_rfl, (fun E => (rs_agg0 (.own0 (by decide) (.own0 (by decide) (.own0 (by decide) (.own0 (by decide) (.lit (.lit (.lit (.lit (.lit (.own0 (by decide) (.own0 (by decide) .nil))))))))))) .nil))⟩, by decide, by decide, rfl, by decide, rfl, ⟨(Go.Proofs.Tryz.prog.underlying 29).get (by kernel_rfl), (Option.some_get _).symm, by kernel_rfl⟩,
   (fun fs h => by cases h; exact ⟨Go.Proofs.Tryz.prog.fieldsOf 29, by kernel_rfl, by kernel_rfl, fun j p hj => by simpa using str_of (fields := (Go.Proofs.Tryz.prog.fieldsOf 29).toList) (by kernel_rfl) (by decide) j p hj⟩), (fun n el h => by cases h), (fun fs h => by cases h; exact fty_of (fields0 := Go.Proofs.Tryz.prog.fieldsOf 29) (by kernel_rfl) (by kernel_rfl)), (fun el h => by cases h), (fun k h => by cases h), (fun h => by cases h), (fun h => by cases h)⟩
theorem ly32 : TiOk Go.Proofs.Tryz.prog lay 32 y32 :=
  ⟨⟨(Go.Proofs.Tryz.prog.info? 32).get (by kernel_rfl), (Option.some_get _).symm, by kernel_rfl, by kernel_rfl, (.agg #[.int .i64 0, .int .i64 0, .int .i64 0, .int .i64 0]), by kernel_rfl, (fun E => (rs_agg0 (.lit (.lit (.lit (.lit .nil)))) .nil))⟩, by decide, by decide, rfl, by decide, rfl, ⟨(Go.Proofs.Tryz.prog.underlying 32).get (by kernel_rfl), (Option.some_get _).symm, by kernel_rfl⟩,
   (fun fs h => by cases h; exact ⟨Go.Proofs.Tryz.prog.fieldsOf 32, by kernel_rfl, by kernel_rfl, fun j p hj => by simpa using str_of (fields := (Go.Proofs.Tryz.prog.fieldsOf 32).toList) (by kernel_rfl) (by decide) j p hj⟩), (fun n el h => by cases h), (fun fs h => by cases h; exact fty_of (fields0 := Go.Proofs.Tryz.prog.fieldsOf 32) (by kernel_rfl) (by kernel_rfl)), (fun el h => by cases h), (fun k h => by cases h), (fun h => by cases h), (fun _ => plain_struct (by kernel_rfl) (by kernel_rfl) (by kernel_rfl) (by kernel_rfl) (by kernel_rfl))⟩
theorem ly33 : TiOk Go.Proofs.Tryz.prog lay 33 y33 :=
  ⟨⟨(Go.Proofs.Tryz.prog.info? 33).get (by kernel_rfl), (Option.some_get _).symm, by kernel_rfl, by kernel_rfl, (.slice none 0 0), by kernel_rfl, (fun E => (.own0 (by decide) .nil))⟩, by decide, by decide, rfl, by decide, rfl, ⟨(Go.Proofs.Tryz.prog.underlying 33).get (by kernel_rfl), (Option.some_get _).symm, by kernel_rfl⟩,
   (fun fs h => by cases h), (fun n el h => by cases h), (fun fs h => by cases h), (fun el h => by cases h; kernel_rfl), (fun k h => by cases h), (fun h => by cases h), (fun h => by cases h)⟩
theorem ly34 : TiOk Go.Proofs.Tryz.prog lay 34 y34 :=
  ⟨⟨(Go.Proofs.Tryz.prog.info? 34).get (by kernel_rfl), (Option.some_get _).symm, by kernel_rfl, by kernel_rfl, (.slice none 0 0), by kernel_rfl, (fun E => (.own0 (by decide) .nil))⟩, by decide, by decide, rfl, by decide, rfl, ⟨(Go.Proofs.Tryz.prog.underlying 34).get (by kernel_rfl), (Option.some_get _).symm, by kernel_rfl⟩,
   (fun fs h => by cases h), (fun n el h => by cases h), (fun fs h => by cases h), (fun el h => by cases h; kernel_rfl), (fun k h => by cases h), (fun h => by cases h), (fun h => by cases h)⟩
theorem ly35 : TiOk Go.Proofs.Tryz.prog lay 35 y35 :=
  ⟨⟨(Go.Proofs.Tryz.prog.info? 35).get (by kernel_rfl), (Option.some_get _).symm, by kernel_rfl, by kernel_rfl, (.slice none 0 0), by kernel_rfl, (fun E => (.own0 (by decide) .nil))⟩, by decide, by decide, rfl, by decide, rfl, ⟨(Go.Proofs.Tryz.prog.underlying 35).get (by kernel_rfl), (Option.some_get _).symm, by kernel_rfl⟩,
   (fun fs h => by cases h), (fun n el h => by cases h), (fun fs h => by cases h), (fun el h => by cases h; kernel_rfl), (fun k h => by cases h), (fun h => by cases h), (fun h => by cases h)⟩
theorem ly37 : TiOk Go.Proofs.Tryz.prog lay 37 y37 :=
  ⟨⟨(Go.Proofs.Tryz.prog.info? 37).get (by kernel_rfl), (Option.some_get _).symm, by kernel_rfl, by kernel_rfl, (.agg #[.int .i64 0, .int .i64 0, .int .i64 0, .slice none 0 0, .int .i64 0, .int .i64 0, .int .i64 0, .int .i64 0, .int .i64 0, .int .i64 0, .slice none 0 0, .slice none 0 0, .int .i64 0, .int .i64 0, .int .i64 0, .int .i64 0, .int .i64 0]), by kernel_rfl, (fun E => (rs_agg0 (.lit (.lit (.lit (.own0 (by decide) (.lit (.lit (.lit (.lit (.lit (.lit (.own0 (by decide) (.own0 (by decide) (.lit (.lit (.lit (.lit (.lit .nil))))))))))))))))) .nil))⟩, by decide, by decide, rfl, by decide, rfl, ⟨(Go.Proofs.Tryz.prog.underlying 37).get (by kernel_rfl), (Option.some_get _).symm, by kernel_rfl⟩,
   (fun fs h => by cases h; exact ⟨Go.Proofs.Tryz.prog.fieldsOf 37, by kernel_rfl, by kernel_rfl, fun j p hj => by simpa using str_of (fields := (Go.Proofs.Tryz.prog.fieldsOf 37).toList) (by kernel_rfl) (by decide) j p hj⟩), (fun n el h => by cases h), (fun fs h => by cases h; exact fty_of (fields0 := Go.Proofs.Tryz.prog.fieldsOf 37) (by kernel_rfl) (by kernel_rfl)), (fun el h => by cases h), (fun k h => by cases h), (fun h => by cases h), (fun h => by cases h)⟩
theorem ly40 : TiOk Go.Proofs.Tryz.prog lay 40 y40 :=
  ⟨⟨(Go.Proofs.Tryz.prog.info? 40).get (by kernel_rfl), (Option.some_get _).symm, by kernel_rfl, by kernel_rfl, (.int .i64 0), by kernel_rfl, (fun E => (.lit .nil))⟩, by decide, by decide, rfl, by decide, rfl, ⟨(Go.Proofs.Tryz.prog.underlying 40).get (by kernel_rfl), (Option.some_get _).symm, by kernel_rfl⟩,
   (fun fs h => by cases h), (fun n el h => by cases h), (fun fs h => by cases h), (fun el h => by cases h), (fun k h => by cases h; kernel_rfl), (fun h => by cases h), (fun h => by cases h)⟩
theorem ly45 : TiOk Go.Proofs.Tryz.prog lay 45 y45 :=
  ⟨⟨(Go.Proofs.Tryz.prog.info? 45).get (by kernel_rfl), (Option.some_get _).symm, by kernel_rfl, by kernel_rfl, (.agg #[.int .i64 0, .int .i64 0, .int .i64 0]), by kernel_rfl, (fun E => (rs_agg0 (.lit (.lit (.lit .nil))) .nil))⟩, by decide, by decide, rfl, by decide, rfl, ⟨(Go.Proofs.Tryz.prog.underlying 45).get (by kernel_rfl), (Option.some_get _).symm, by kernel_rfl⟩,
   (fun fs h => by cases h; exact ⟨Go.Proofs.Tryz.prog.fieldsOf 45, by kernel_rfl, by kernel_rfl, fun j p hj => by simpa using str_of (fields := (Go.Proofs.Tryz.prog.fieldsOf 45).toList) (by kernel_rfl) (by decide) j p hj⟩), (fun n el h => by cases h), (fun fs h => by cases h; exact fty_of (fields0 := Go.Proofs.Tryz.prog.fieldsOf 45) (by kernel_rfl) (by kernel_rfl)), (fun el h => by cases h), (fun k h => by cases h), (fun h => by cases h), (fun _ => plain_struct (by kernel_rfl) (by kernel_rfl) (by kernel_rfl) (by kernel_rfl) (by kernel_rfl))⟩
theorem ly52 : TiOk Go.Proofs.Tryz.prog lay 52 y52 :=
  ⟨⟨(Go.Proofs.Tryz.prog.info? 52).get (by kernel_rfl), (Option.some_get _).symm, by kernel_rfl, by kernel_rfl, (.int .u64 0), by kernel_rfl, (fun E => (.lit .nil))⟩, by decide, by decide, rfl, by decide, rfl, ⟨(Go.Proofs.Tryz.prog.underlying 52).get (by kernel_rfl), (Option.some_get _).symm, by kernel_rfl⟩,
   (fun fs h => by cases h), (fun n el h => by cases h), (fun fs h => by cases h), (fun el h => by cases h), (fun k h => by cases h; kernel_rfl), (fun h => by cases h), (fun h => by cases h)⟩
theorem ly53 : TiOk Go.Proofs.Tryz.prog lay 53 y53 :=
  ⟨⟨(Go.Proofs.Tryz.prog.info? 53).get (by kernel_rfl), (Option.some_get _).symm, by kernel_rfl, by kernel_rfl, (.slice none 0 0), by kernel_rfl, (fun E => (.own0 (by decide) .nil))⟩, by decide, by decide, rfl, by decide, rfl, ⟨(Go.Proofs.Tryz.prog.underlying 53).get (by kernel_rfl), (Option.some_get _).symm, by kernel_rfl⟩,
   (fun fs h => by cases h), (fun n el h => by cases h), (fun fs h => by cases h), (fun el h => by cases h; kernel_rfl), (fun k h => by cases h), (fun h => by cases h), (fun h => by cases h)⟩
theorem ly60 : TiOk Go.Proofs.Tryz.prog lay 60 y60 :=
  ⟨⟨(Go.Proofs.Tryz.prog.info? 60).get (by kernel_rfl), (Option.some_get _).symm, by kernel_rfl, by kernel_rfl, (.agg #[.int .i64 0, .int .i64 0, .int .i64 0]), by kernel_rfl, (fun E => (rs_agg0 (.lit (.lit (.lit .nil))) .nil))⟩, by decide, by decide, rfl, by decide, rfl, ⟨(Go.Proofs.Tryz.prog.underlying 60).get (by kernel_rfl), (Option.some_get _).symm, by kernel_rfl⟩,
   (fun fs h => by cases h; exact ⟨Go.Proofs.Tryz.prog.fieldsOf 60, by kernel_rfl, by kernel_rfl, fun j p hj => by simpa using str_of (fields := (Go.Proofs.Tryz.prog.fieldsOf 60).toList) (by kernel_rfl) (by decide) j p hj⟩), (fun n el h => by cases h), (fun fs h => by cases h; exact fty_of (fields0 := Go.Proofs.Tryz.prog.fieldsOf 60) (by kernel_rfl) (by kernel_rfl)), (fun el h => by cases h), (fun k h => by cases h), (fun h => by cases h), (fun _ => plain_struct (by kernel_rfl) (by kernel_rfl) (by kernel_rfl) (by kernel_rfl) (by kernel_rfl))⟩
theorem ly64 : TiOk Go.Proofs.Tryz.prog lay 64 y64 :=
  ⟨⟨(Go.Proofs.Tryz.prog.info? 64).get (by kernel_rfl), (Option.some_get _).symm, by kernel_rfl, by kernel_rfl, (.agg #[.slice none 0 0, .slice none 0 0, .slice none 0 0, .slice none 0 0]), by kernel_rfl, (fun E => (rs_agg0 (.own0 (by decide) (.own0 (by decide) (.own0 (by decide) (.own0 (by decide) .nil)))) .nil))⟩, by decide, by decide, rfl, by decide, rfl, ⟨(Go.Proofs.Tryz.prog.underlying 64).get (by kernel_rfl), (Option.some_get _).symm, by kernel_rfl⟩,
   (fun fs h => by cases h), (fun n el h => by cases h; kernel_rfl), (fun fs h => by cases h), (fun el h => by cases h), (fun k h => by cases h), (fun h => by cases h), (fun h => by cases h)⟩
theorem ly66 : TiOk Go.Proofs.Tryz.prog lay 66 y66 :=
  ⟨⟨(Go.Proofs.Tryz.prog.info? 66).get (by kernel_rfl), (Option.some_get _).symm, by kernel_rfl, by kernel_rfl, (.agg #[.int .i64 0, .int .i64 0, .int .i64 0, .slice none 0 0]), by kernel_rfl, (fun E => (rs_agg0 (.lit (.lit (.lit (.own0 (by decide) .nil)))) .nil))⟩, by decide, by decide, rfl, by decide, rfl, ⟨(Go.Proofs.Tryz.prog.underlying 66).get (by kernel_rfl), (Option.some_get _).symm, by kernel_rfl⟩,
   (fun fs h => by cases h; exact ⟨Go.Proofs.Tryz.prog.fieldsOf 66, by kernel_rfl, by kernel_rfl, fun j p hj => by simpa using str_of (fields := (Go.Proofs.Tryz.prog.fieldsOf 66).toList) (by kernel_rfl) (by decide) j p hj⟩), (fun n el h => by cases h), (fun fs h => by cases h; exact fty_of (fields0 := Go.Proofs.Tryz.prog.fieldsOf 66) (by kernel_rfl) (by kernel_rfl)), (fun el h => by cases h), (fun k h => by cases h), (fun h => by cases h), (fun h => by cases h)⟩
theorem ly67 : TiOk Go.Proofs.Tryz.prog lay 67 y67 :=
  ⟨⟨(Go.Proofs.Tryz.prog.info? 67).get (by kernel_rfl), (Option.some_get _).symm, by kernel_rfl, by kernel_rfl, (.slice none 0 0), by kernel_rfl, (fun E => (.own0 (by decide) .nil))⟩, by decide, by decide, rfl, by decide, rfl, ⟨(Go.Proofs.Tryz.prog.underlying 67).get (by kernel_rfl), (Option.some_get _).symm, by kernel_rfl⟩,
   (fun fs h => by cases h), (fun n el h => by cases h), (fun fs h => by cases h), (fun el h => by cases h; kernel_rfl), (fun k h => by cases h), (fun h => by cases h), (fun h => by cases h)⟩
theorem ly68 : TiOk Go.Proofs.Tryz.prog lay 68 y68 :=
  ⟨⟨(Go.Proofs.Tryz.prog.info? 68).get (by kernel_rfl), (Option.some_get _).symm, by kernel_rfl, by kernel_rfl, (.slice none 0 0), by kernel_rfl, (fun E => (.own0 (by decide) .nil))⟩, by decide, by decide, rfl, by decide, rfl, ⟨(Go.Proofs.Tryz.prog.underlying 68).get (by kernel_rfl), (Option.some_get _).symm, by kernel_rfl⟩,
   (fun fs h => by cases h), (fun n el h => by cases h), (fun fs h => by cases h), (fun el h => by cases h; kernel_rfl), (fun k h => by cases h), (fun h => by cases h), (fun h => by cases h)⟩
theorem ly70 : TiOk Go.Proofs.Tryz.prog lay 70 y70 :=
  ⟨⟨(Go.Proofs.Tryz.prog.info? 70).get (by kernel_rfl), (Option.some_get _).symm, by kernel_rfl, by kernel_rfl, (.agg #[.slice none 0 0, .slice none 0 0, .slice none 0 0, .slice none 0 0, .int .i64 0, .slice none 0 0, .slice none 0 0]), by kernel_rfl, (fun E => (rs_agg0 (.own0 (by decide) (.own0 (by decide) (.own0 (by decide) (.own0 (by decide) (.lit (.own0 (by decide) (.own0 (by decide) .nil))))))) .nil))⟩, by decide, by decide, rfl, by decide, rfl, ⟨(Go.Proofs.Tryz.prog.underlying 70).get (by kernel_rfl), (Option.some_get _).symm, by kernel_rfl⟩,
   (fun fs h => by cases h; exact ⟨Go.Proofs.Tryz.prog.fieldsOf 70, by kernel_rfl, by kernel_rfl, fun j p hj => by simpa using str_of (fields := (Go.Proofs.Tryz.prog.fieldsOf 70).toList) (by kernel_rfl) (by decide) j p hj⟩), (fun n el h => by cases h), (fun fs h => by cases h; exact fty_of (fields0 := Go.Proofs.Tryz.prog.fieldsOf 70) (by kernel_rfl) (by kernel_rfl)), (fun el h => by cases h), (fun k h => by cases h), (fun h => by cases h), (fun h => by cases h)⟩
theorem ly73 : TiOk Go.Proofs.Tryz.prog lay 73 y73 :=
  ⟨⟨(Go.Proofs.Tryz.prog.info? 73).get (by kernel_rfl), (Option.some_get _).symm, by kernel_rfl, by kernel_rfl, (.pointer none), by kernel_rfl, (fun E => (.lit .nil))⟩, by decide, by decide, rfl, by decide, rfl, ⟨(Go.Proofs.Tryz.prog.underlying 73).get (by kernel_rfl), (Option.some_get _).symm, by kernel_rfl⟩,
   (fun fs h => by cases h), (fun n el h => by cases h), (fun fs h => by cases h), (fun el h => by cases h), (fun k h => by cases h), (fun h => by cases h), (fun h => by cases h)⟩
theorem ly74 : TiOk Go.Proofs.Tryz.prog lay 74 y74 :=
  ⟨⟨(Go.Proofs.Tryz.prog.info? 74).get (by kernel_rfl), (Option.some_get _).symm, by kernel_rfl, by kernel_rfl, (.pointer none), by kernel_rfl, (fun E => (.lit .nil))⟩, by decide, by decide, rfl, by decide, rfl, ⟨(Go.Proofs.Tryz.prog.underlying 74).get (by kernel_rfl), (Option.some_get _).symm, by kernel_rfl⟩,
   (fun fs h => by cases h), (fun n el h => by cases h), (fun fs h => by cases h), (fun el h => by cases h), (fun k h => by cases h), (fun h => by cases h), (fun h => by cases h)⟩
theorem ly92 : TiOk Go.Proofs.Tryz.prog lay 92 y92 :=
  ⟨⟨(Go.Proofs.Tryz.prog.info? 92).get (by kernel_rfl), (Option.some_get _).symm, by kernel_rfl, by kernel_rfl, (.agg #[.int .i64 0, .int .i64 0, .int .i64 0, .int .i64 0]), by kernel_rfl, (fun E => (rs_agg0 (.lit (.lit (.lit (.lit .nil)))) .nil))⟩, by decide, by decide, rfl, by decide, rfl, ⟨(Go.Proofs.Tryz.prog.underlying 92).get (by kernel_rfl), (Option.some_get _).symm, by kernel_rfl⟩,
   (fun fs h => by cases h; exact ⟨Go.Proofs.Tryz.prog.fieldsOf 92, by kernel_rfl, by kernel_rfl, fun j p hj => by simpa using str_of (fields := (Go.Proofs.Tryz.prog.fieldsOf 92).toList) (by kernel_rfl) (by decide) j p hj⟩), (fun n el h => by cases h), (fun fs h => by cases h; exact fty_of (fields0 := Go.Proofs.Tryz.prog.fieldsOf 92) (by kernel_rfl) (by kernel_rfl)), (fun el h => by cases h), (fun k h => by cases h), (fun h => by cases h), (fun _ => plain_struct (by kernel_rfl) (by kernel_rfl) (by kernel_rfl) (by kernel_rfl) (by kernel_rfl))⟩
theorem ly105 : TiOk Go.Proofs.Tryz.prog lay 105 y105 :=
  ⟨⟨(Go.Proofs.Tryz.prog.info? 105).get (by kernel_rfl), (Option.some_get _).symm, by kernel_rfl, by kernel_rfl, (.agg #[.int .i64 0, .int .i64 0, .int .i64 0]), by kernel_rfl, (fun E => (rs_agg0 (.lit (.lit (.lit .nil))) .nil))⟩, by decide, by decide, rfl, by decide, rfl, ⟨(Go.Proofs.Tryz.prog.underlying 105).get (by kernel_rfl), (Option.some_get _).symm, by kernel_rfl⟩,
   (fun fs h => by cases h; exact ⟨Go.Proofs.Tryz.prog.fieldsOf 105, by kernel_rfl, by kernel_rfl, fun j p hj => by simpa using str_of (fields := (Go.Proofs.Tryz.prog.fieldsOf 105).toList) (by kernel_rfl) (by decide) j p hj⟩), (fun n el h => by cases h), (fun fs h => by cases h; exact fty_of (fields0 := Go.Proofs.Tryz.prog.fieldsOf 105) (by kernel_rfl) (by kernel_rfl)), (fun el h => by cases h), (fun k h => by cases h), (fun h => by cases h), (fun _ => plain_struct (by kernel_rfl) (by kernel_rfl) (by kernel_rfl) (by kernel_rfl) (by kernel_rfl))⟩
theorem ly119 : TiOk Go.Proofs.Tryz.prog lay 119 y119 :=
  ⟨⟨(Go.Proofs.Tryz.prog.info? 119).get (by kernel_rfl), (Option.some_get _).symm, by kernel_rfl, by kernel_rfl, (.nilFunc), by kernel_rfl, (fun E => (.lit .nil))⟩, by decide, by decide, rfl, by decide, rfl, ⟨(Go.Proofs.Tryz.prog.underlying 119).get (by kernel_rfl), (Option.some_get _).symm, by kernel_rfl⟩,
   (fun fs h => by cases h), (fun n el h => by cases h), (fun fs h => by cases h), (fun el h => by cases h), (fun k h => by cases h), (fun h => by cases h), (fun h => by cases h)⟩
theorem ly123 : TiOk Go.Proofs.Tryz.prog lay 123 y123 :=
  ⟨⟨(Go.Proofs.Tryz.prog.info? 123).get (by kernel_rfl), (Option.some_get _).symm, by kernel_rfl, by kernel_rfl, (.pointer none), by kernel_rfl, (fun E => (.lit .nil))⟩, by decide, by decide, rfl, by decide, rfl, ⟨(Go.Proofs.Tryz.prog.underlying 123).get (by kernel_rfl), (Option.some_get _).symm, by kernel_rfl⟩,
   (fun fs h => by cases h), (fun n el h => by cases h), (fun fs h => by cases h), (fun el h => by cases h), (fun k h => by cases h), (fun h => by cases h), (fun h => by cases h)⟩
theorem ly153 : TiOk Go.Proofs.Tryz.prog lay 153 y153 :=
  ⟨⟨(Go.Proofs.Tryz.prog.info? 153).get (by kernel_rfl), (Option.some_get _).symm, by kernel_rfl, by kernel_rfl, (.nilFunc), by kernel_rfl, (fun E => (.lit .nil))⟩, by decide, by decide, rfl, by decide, rfl, ⟨(Go.Proofs.Tryz.prog.underlying 153).get (by kernel_rfl), (Option.some_get _).symm, by kernel_rfl⟩,
   (fun fs h => by cases h), (fun n el h => by cases h), (fun fs h => by cases h), (fun el h => by cases h), (fun k h => by cases h), (fun h => by cases h), (fun h => by cases h)⟩
theorem ly155 : TiOk Go.Proofs.Tryz.prog lay 155 y155 :=
  ⟨⟨(Go.Proofs.Tryz.prog.info? 155).get (by kernel_rfl), (Option.some_get _).symm, by kernel_rfl, by kernel_rfl, (.nilFunc), by kernel_rfl, (fun E => (.lit .nil))⟩, by decide, by decide, rfl, by decide, rfl, ⟨(Go.Proofs.Tryz.prog.underlying 155).get (by kernel_rfl), (Option.some_get _).symm, by kernel_rfl⟩,
   (fun fs h => by cases h), (fun n el h => by cases h), (fun fs h => by cases h), (fun el h => by cases h), (fun k h => by cases h), (fun h => by cases h), (fun h => by cases h)⟩
theorem ly156 : TiOk Go.Proofs.Tryz.prog lay 156 y156 :=
  ⟨⟨(Go.Proofs.Tryz.prog.info? 156).get (by kernel_rfl), (Option.some_get _).symm, by kernel_rfl, by kernel_rfl, (.pointer none), by kernel_rfl, (fun E => (.lit .nil))⟩, by decide, by decide, rfl, by decide, rfl, ⟨(Go.Proofs.Tryz.prog.underlying 156).get (by kernel_rfl), (Option.some_get _).symm, by kernel_rfl⟩,
   (fun fs h => by cases h), (fun n el h => by cases h), (fun fs h => by cases h), (fun el h => by cases h), (fun k h => by cases h), (fun h => by cases h), (fun h => by cases h)⟩
theorem ly158 : TiOk Go.Proofs.Tryz.prog lay 158 y158 :=
  ⟨⟨(Go.Proofs.Tryz.prog.info? 158).get (by kernel_rfl), (Option.some_get _).symm, by kernel_rfl, by kernel_rfl, (.agg #[.pointer none]), by kernel_rfl, (fun E => (rs_agg0 (.lit .nil) .nil))⟩, by decide, by decide, rfl, by decide, rfl, ⟨(Go.Proofs.Tryz.prog.underlying 158).get (by kernel_rfl), (Option.some_get _).symm, by kernel_rfl⟩,
   (fun fs h => by cases h; exact ⟨Go.Proofs.Tryz.prog.fieldsOf 158, by kernel_rfl, by kernel_rfl, fun j p hj => by simpa using str_of (fields := (Go.Proofs.Tryz.prog.fieldsOf 158).toList) (by kernel_rfl) (by decide) j p hj⟩), (fun n el h => by cases h), (fun fs h => by cases h; exact fty_of (fields0 := Go.Proofs.Tryz.prog.fieldsOf 158) (by kernel_rfl) (by kernel_rfl)), (fun el h => by cases h), (fun k h => by cases h), (fun h => by cases h), (fun h => by cases h)⟩
theorem ly160 : TiOk Go.Proofs.Tryz.prog lay 160 y160 :=
  ⟨⟨(Go.Proofs.Tryz.prog.info? 160).get (by kernel_rfl), (Option.some_get _).symm, by kernel_rfl, by kernel_rfl, (.nilFunc), by kernel_rfl, (fun E => (.lit .nil))⟩, by decide, by decide, rfl, by decide, rfl, ⟨(Go.Proofs.Tryz.prog.underlying 160).get (by kernel_rfl), (Option.some_get _).symm, by kernel_rfl⟩,
   (fun fs h => by cases h), (fun n el h => by cases h), (fun fs h => by cases h), (fun el h => by cases h), (fun k h => by cases h), (fun h => by cases h), (fun h => by cases h)⟩
theorem ly163 : TiOk Go.Proofs.Tryz.prog lay 163 y163 :=
  ⟨⟨(Go.Proofs.Tryz.prog.info? 163).get (by kernel_rfl), (Option.some_get _).symm, by kernel_rfl, by kernel_rfl, (.nilFunc), by kernel_rfl, (fun E => (.lit .nil))⟩, by decide, by decide, rfl, by decide, rfl, ⟨(Go.Proofs.Tryz.prog.underlying 163).get (by kernel_rfl), (Option.some_get _).symm, by kernel_rfl⟩,
   (fun fs h => by cases h), (fun n el h => by cases h), (fun fs h => by cases h), (fun el h => by cases h), (fun k h => by cases h), (fun h => by cases h), (fun h => by cases h)⟩
theorem ly165 : TiOk Go.Proofs.Tryz.prog lay 165 y165 :=
  ⟨⟨(Go.Proofs.Tryz.prog.info? 165).get (by kernel_rfl), (Option.some_get _).symm, by kernel_rfl, by kernel_rfl, (.nilFunc), by kernel_rfl, (fun E => (.lit .nil))⟩, by decide, by decide, rfl, by decide, rfl, ⟨(Go.Proofs.Tryz.prog.underlying 165).get (by kernel_rfl), (Option.some_get _).symm, by kernel_rfl⟩,
   (fun fs h => by cases h), (fun n el h => by cases h), (fun fs h => by cases h), (fun el h => by cases h), (fun k h => by cases h), (fun h => by cases h), (fun h => by cases h)⟩
theorem ly196 : TiOk Go.Proofs.Tryz.prog lay 196 y196 :=
  ⟨⟨(Go.Proofs.Tryz.prog.info? 196).get (by kernel_rfl), (Option.some_get _).symm, by kernel_rfl, by kernel_rfl, (.agg #[.int .i64 0, .int .i64 0]), by kernel_rfl, (fun E => (rs_agg0 (.lit (.lit .nil)) .nil))⟩, by decide, by decide, rfl, by decide, rfl, ⟨(Go.Proofs.Tryz.prog.underlying 196).get (by kernel_rfl), (Option.some_get _).symm, by kernel_rfl⟩,
   (fun fs h => by cases h; exact ⟨Go.Proofs.Tryz.prog.fieldsOf 196, by kernel_rfl, by kernel_rfl, fun j p hj => by simpa using str_of (fields := (Go.Proofs.Tryz.prog.fieldsOf 196).toList) (by kernel_rfl) (by decide) j p hj⟩), (fun n el h => by cases h), (fun fs h => by cases h; exact fty_of (fields0 := Go.Proofs.Tryz.prog.fieldsOf 196) (by kernel_rfl) (by kernel_rfl)), (fun el h => by cases h), (fun k h => by cases h), (fun h => by cases h), (fun _ => plain_struct (by kernel_rfl) (by kernel_rfl) (by kernel_rfl) (by kernel_rfl) (by kernel_rfl))⟩
theorem layOk : LayOk Go.Proofs.Tryz.prog lay := by
  have this : ∀ p ∈ layL, TiOk Go.Proofs.Tryz.prog lay p.1 p.2 := by
    simp only [layL, List.forall_mem_cons]
    exact ⟨ly1, ly2, ly3, ly4, ly5, ly6, ly7, ly8, ly9, ly10, ly11, ly12, ly13, ly23, ly24, ly25, ly26, ly27, ly29, ly32, ly33, ly34, ly35, ly37, ly40, ly45, ly52, ly53, ly60, ly64, ly66, ly67, ly68, ly70, ly73, ly74, ly92, ly105, ly119, ly123, ly153, ly155, ly156, ly158, ly160, ly163, ly165, ly196, fun p hp => by cases hp⟩
  exact fun t ti h => this (t, ti) (lk_mem h)
end Ve

/- All functions of a table at once. -/
namespace Ve
open Go
def tieB (P : Program) (p : Nat × IFn) : Option IR := (P.funcs[p.1]?).bind fun fn => fn.body.bind fun c => graft c p.2.body
def tieR (P : Program) (p : Nat × IFn) : Option (List ResultVar) := (P.funcs[p.1]?).map fun fn => fn.results.toList
def tieW (P : Program) (L : Lay) (p : Nat × IFn) : Bool := match P.funcs[p.1]? with
  | some fn => (match fn.body with
    | some c => wfC L fn.ntmps c
    | none => false) && !(fn.name == "runtime.NumGoroutine")
  | none => false
theorem tie_all {P : Program} {L : Lay} {l : List (Nat × IFn)} (h1 : l.map (tieB P) = l.map fun p => some p.2.body) (h2 : l.map (tieR P) = l.map fun p => some p.2.results) (h3 : l.all (tieW P L) = true) :
    ∀ f d, lk l f = some d → FnIs P L f d := by
  intro f d h
  have hm := lk_mem h
  have e1 := List.map_inj_left.1 h1 _ hm
  have e2 := List.map_inj_left.1 h2 _ hm
  have e3 := List.all_eq_true.1 h3 _ hm
  simp only [tieB, Option.bind_eq_some_iff] at e1
  obtain ⟨fn, hf, c, hb, hg⟩ := e1
  simp only [tieR, hf, Option.map_some, Option.some.injEq] at e2
  simp only [tieW, hf, hb, Bool.and_eq_true, Bool.not_eq_true'] at e3
  exact ⟨⟨fn, c, hf, hb, hg, e3.1, e2, e3.2⟩⟩
end Ve

/- Each function of the tables is the program's. -/
namespace Ve
open Go
set_option maxRecDepth 100000
theorem fns1 : tblL.map (tieB Go.Proofs.Tryz.prog) = tblL.map fun p => some p.2.body := by kernel_rfl
theorem fns2 : tblL.map (tieR Go.Proofs.Tryz.prog) = tblL.map fun p => some p.2.results := by kernel_rfl
theorem fns3 : tblL.all (tieW Go.Proofs.Tryz.prog lay) = true := by kernel_rfl
theorem fnsOk : ∀ f d, tbl f = some d → FnIs Go.Proofs.Tryz.prog lay f d := tie_all fns1 fns2 fns3
end Ve

/- slices.Clone: what its steps need. -/
namespace Ve
open Go
theorem run_build0 {P : Program} (w : World) (t e : TypeId) (i : TypeInfo) (ht : P.underlying t = some (.slice e)) (hi : P.info? e = some i) :
    (Instr.buildSlice t 0 #[]).run P w = .ok (.slice (some { block := w.heap.size, off := 0 }) 0 0) (w.alloc (.cells #[] e)) := by
  simp [Instr.buildSlice, run_underlying ht, Go.sizeOf, typeInfo, hi, Instr.fill, newRow, show Array.range 0 = #[] from rfl]
theorem rangeAt_alloc {w : World} {b off : Nat} {ys : List Value} {o : Go.Obj} (h : w.rangeAt b off ys) : (w.alloc o).rangeAt b off ys := by
  by_cases hb : b < w.heap.size
  · exact rangeAt_block ((Later.alloc w o).2 b hb) h
  · cases ys with
    | nil => intro j u hj; simp at hj
    | cons y ys =>
      have := h 0 y rfl
      simp [World.cell?, Array.getElem?_eq_none (Nat.le_of_not_lt hb)] at this
theorem clone_tail {P : Program} {L : Lay} (hL : LayOk P L) {t el : TypeId} {ei : TI} (hei : L el = some ei) (hu : P.underlying t = some (.slice el)) (w : World) {ad : Addr} {m c : Nat} {news : List Value}
    (hone : Ones news) (hlen : news.length = m * ei.size) (hx : (m = 0 ∧ ∃ ad' c', Value.slice (some ad) m c = .slice ad' 0 c') ∨ ∃ b off c', Value.slice (some ad) m c = .slice (some ⟨b, off, none⟩) m c' ∧ w.rangeAt b off news ∧ m ≤ c')
    (hb : m * ei.bytes ≤ 140737488355328) (hm : m ≤ maxLen) (hpos : 0 < ei.size) : ∃ v' w', (Builtin.append_ #[t, t] t #[.slice (some { block := w.heap.size, off := 0 }) 0 0, .slice (some ad) m c]).run P (w.alloc (.cells #[] el)) = .ok v' w' ∧
      (Later w w' ∧ ((m = 0 ∧ ∃ ad, v' = .slice ad 0 0) ∨ ∃ b cap', v' = .slice (some ⟨b, 0, none⟩) m cap' ∧ RowAt w' b ei.size m cap' news ∧ w.heap.size ≤ b ∧ b < w'.heap.size)) := by
  have hrow : RowAt (w.alloc (.cells #[] el)) w.heap.size ei.size 0 0 [] := ⟨⟨#[], el, heap_alloc_new _ _, by simp, by simp⟩, Nat.le_refl _, Nat.zero_le _, hpos, (by intro y hy; simp at hy), by simp⟩
  have hx2 : (m = 0 ∧ ∃ ad' c', Value.slice (some ad) m c = .slice ad' 0 c') ∨ ∃ b off c', Value.slice (some ad) m c = .slice (some ⟨b, off, none⟩) m c' ∧ (w.alloc (.cells #[] el)).rangeAt b off news := by
    rcases hx with h | ⟨b, off, c', h1, h2, _⟩
    · exact .inl h
    · exact .inr ⟨b, off, c', h1, rangeAt_alloc h2⟩
  have hw := append_ways hL hei hu t (w := w.alloc (.cells #[] el)) (dv := .slice (some ⟨w.heap.size, 0, none⟩) 0 0) (n := 0) (cap := 0) (ys := []) (g := some w.heap.size) (.inr ⟨_, rfl, rfl, hrow⟩) (xv := .slice (some ad) m c) (m := m) (news := news) hone hlen hx2 (by simpa using hb) (by simpa using hm)
  obtain ⟨v', w', hr, hv⟩ := hw
  refine ⟨v', w', hr, ?_⟩
  rcases hv with ⟨h0, ⟨a0, rfl⟩, rfl⟩ | ⟨b, hb, rfl, h1, h2, h3, h4, h5, h6⟩ | ⟨cap', rfl, h1, h2, h3⟩
  · exact ⟨Later.alloc _ _, .inl ⟨by omega, _, rfl⟩⟩
  · cases hb
    have hm0 : m = 0 := by have := h1.le; omega
    subst hm0
    refine ⟨⟨by simp [h3], fun b hb => ?_, by rw [h4]; rfl, by rw [h5]; rfl, by rw [h6]; rfl⟩, .inl ⟨rfl, _, rfl⟩⟩
    rw [h2 b (by omega)]; exact (Later.alloc w _).2 b hb
  · simp only [Nat.zero_add, List.nil_append] at h1 ⊢
    exact ⟨(Later.alloc _ _).trans h2, .inr ⟨_, _, rfl, h1, by simp, h3⟩⟩
theorem len_of {m b : Nat} (h : m * b ≤ 140737488355328) (hb : 0 < b) : m ≤ maxLen := by
  have : m * 1 ≤ m * b := Nat.mul_le_mul_left _ hb
  simp only [maxLen]; omega
theorem wpList_four {P : Program} {w : World} {ops : Array Oper} {Q : Exit → Act → World → Prop} {x0 x2 x3 x4 u1 u5 u6 u7 s : Value} {t ty1 ty2 ty3 ty4 : TypeId} {p1 p2 p3 p4 : String} {a1 a2 a3 a4 : Array _}
    {v' : Value} {w' w1 : World} (hb : (Instr.buildSlice t 0 #[]).run P w = .ok s w1) (hr : (Builtin.append_ #[t, t] ty3 #[s, x0]).run P w1 = .ok v' w')
    (h : wpList P ops Q [] ⟨#[x0, u1, v', x3, x4, s, x0, v'], []⟩ w') : wpList P ops Q [{ dst := some 5, op := .buildSlice t 0 #[], type := ty1, pos := p1, after := a1, guard := none }, { dst := some 6, op := .move (.tmp 0), type := ty2, pos := p2, after := a2, guard := none },
      { dst := some 7, op := .call { callee := .builtin .append, args := #[.tmp 5, .tmp 6], argTypes := #[t, t] }, type := ty3, pos := p3, after := a3, guard := none }, { dst := some 2, op := .assign (.tmp 7), type := ty4, pos := p4, after := a4, guard := none }] ⟨#[x0, u1, x2, x3, x4, u5, u6, u7], []⟩ w := by
  refine wpList_plain rfl fun K hK => ?_
  unfold Oper.wp execOp
  simp only [List.map_toArray, List.map_nil, hb, Sem.run_bind, Sem.run_pure, Result.andThen_ok]
  refine hK _ _ (wpList_plain rfl fun K hK => ?_)
  unfold Oper.wp execOp
  simp only [Sem.run_pure]
  refine hK _ _ (wpList_plain rfl fun K hK => ?_)
  unfold Oper.wp execOp
  simp only [resolve, invoke, builtin, Sem.run_bind, Sem.run_pure, Result.andThen_ok, List.map_toArray, List.map_cons, List.map_nil, Act.put, Act.eval]
  change Oper.upon P _ _ K Q ((Sem.run P (Builtin.append_ #[t, t] ty3 #[s, x0]) w1).andThen _)
  rw [hr]
  refine hK _ _ (wpList_plain rfl fun K hK => ?_)
  unfold Oper.wp execOp
  simp only [Sem.run_pure]
  exact hK _ _ h
end Ve

/- Each copy of slices.Clone answers with a copy. -/
namespace Ve
open Go
set_option maxRecDepth 100000
theorem cl86 {L : Lay} (hL : LayOk Go.Proofs.Tryz.prog L) {ei : TI} (hei : L 37 = some ei) (hby : 0 < ei.bytes) (i : TypeInfo) (hi : Go.Proofs.Tryz.prog.info? 37 = some i) : CloneAt Go.Proofs.Tryz.prog 86 ei.size ei.bytes := by
  have q26 : ∀ (w : World) (a : Option Addr) (n c n' c' : Nat), (binOp .eql 26 (.slice a n c) (.slice none n' c')).run Go.Proofs.Tryz.prog w = .ok (.bool a.isNone) w := fun w a n c n' c' => Lib.run_eql_slice_nil w _ _ a n c n' c' Go.Proofs.Tryz.underlying26
  have qb := fun w => run_build0 (P := Go.Proofs.Tryz.prog) w 26 37 i Go.Proofs.Tryz.underlying26 hi
  intro w xv m news hone hlen hx hb hpos
  have hxs : ∃ a c, xv = .slice a m c ∧ (a = none → m = 0) := by
    rcases hx with ⟨rfl, ad, c, rfl⟩ | ⟨b, off, c, rfl, _, _⟩
    · exact ⟨ad, c, rfl, fun _ => rfl⟩
    · exact ⟨_, _, rfl, by simp⟩
  obtain ⟨a, c, rfl, ha⟩ := hxs
  cases a with
  | none =>
    have := ha rfl; subst this
    go_enter Go.Proofs.Tryz.func86, Go.Proofs.Tryz.ntmps86
    go_wp2
    go_ret
    exact ⟨Later.refl _, .inl ⟨_, rfl⟩⟩
  | some ad =>
    obtain ⟨v', w', hr, hv⟩ := clone_tail hL hei Go.Proofs.Tryz.underlying26 w hone hlen hx hb (len_of hb hby) hpos
    go_enter Go.Proofs.Tryz.func86, Go.Proofs.Tryz.ntmps86
    clear hx hone hlen hb hL hei hby hi ha
    go_wp2_with (refine wpList_four (qb _) hr ?_)
    go_ret
    exact hv
theorem clo86 : CloneAt Go.Proofs.Tryz.prog 86 17 184 := cl86 layOk (ei := y37) rfl (by decide) ((Go.Proofs.Tryz.prog.info? 37).get (by kernel_rfl)) (Option.some_get _).symm
theorem cl87 {L : Lay} (hL : LayOk Go.Proofs.Tryz.prog L) {ei : TI} (hei : L 92 = some ei) (hby : 0 < ei.bytes) (i : TypeInfo) (hi : Go.Proofs.Tryz.prog.info? 92 = some i) : CloneAt Go.Proofs.Tryz.prog 87 ei.size ei.bytes := by
  have q27 : ∀ (w : World) (a : Option Addr) (n c n' c' : Nat), (binOp .eql 27 (.slice a n c) (.slice none n' c')).run Go.Proofs.Tryz.prog w = .ok (.bool a.isNone) w := fun w a n c n' c' => Lib.run_eql_slice_nil w _ _ a n c n' c' Go.Proofs.Tryz.underlying27
  have qb := fun w => run_build0 (P := Go.Proofs.Tryz.prog) w 27 92 i Go.Proofs.Tryz.underlying27 hi
  intro w xv m news hone hlen hx hb hpos
  have hxs : ∃ a c, xv = .slice a m c ∧ (a = none → m = 0) := by
    rcases hx with ⟨rfl, ad, c, rfl⟩ | ⟨b, off, c, rfl, _, _⟩
    · exact ⟨ad, c, rfl, fun _ => rfl⟩
    · exact ⟨_, _, rfl, by simp⟩
  obtain ⟨a, c, rfl, ha⟩ := hxs
  cases a with
  | none =>
    have := ha rfl; subst this
    go_enter Go.Proofs.Tryz.func87, Go.Proofs.Tryz.ntmps87
    go_wp2
    go_ret
    exact ⟨Later.refl _, .inl ⟨_, rfl⟩⟩
  | some ad =>
    obtain ⟨v', w', hr, hv⟩ := clone_tail hL hei Go.Proofs.Tryz.underlying27 w hone hlen hx hb (len_of hb hby) hpos
    go_enter Go.Proofs.Tryz.func87, Go.Proofs.Tryz.ntmps87
    clear hx hone hlen hb hL hei hby hi ha
    go_wp2_with (refine wpList_four (qb _) hr ?_)
    go_ret
    exact hv
theorem clo87 : CloneAt Go.Proofs.Tryz.prog 87 4 32 := cl87 layOk (ei := y92) rfl (by decide) ((Go.Proofs.Tryz.prog.info? 92).get (by kernel_rfl)) (Option.some_get _).symm
theorem cl120 {L : Lay} (hL : LayOk Go.Proofs.Tryz.prog L) {ei : TI} (hei : L 45 = some ei) (hby : 0 < ei.bytes) (i : TypeInfo) (hi : Go.Proofs.Tryz.prog.info? 45 = some i) : CloneAt Go.Proofs.Tryz.prog 120 ei.size ei.bytes := by
  have q23 : ∀ (w : World) (a : Option Addr) (n c n' c' : Nat), (binOp .eql 23 (.slice a n c) (.slice none n' c')).run Go.Proofs.Tryz.prog w = .ok (.bool a.isNone) w := fun w a n c n' c' => Lib.run_eql_slice_nil w _ _ a n c n' c' Go.Proofs.Tryz.underlying23
  have qb := fun w => run_build0 (P := Go.Proofs.Tryz.prog) w 23 45 i Go.Proofs.Tryz.underlying23 hi
  intro w xv m news hone hlen hx hb hpos
  have hxs : ∃ a c, xv = .slice a m c ∧ (a = none → m = 0) := by
    rcases hx with ⟨rfl, ad, c, rfl⟩ | ⟨b, off, c, rfl, _, _⟩
    · exact ⟨ad, c, rfl, fun _ => rfl⟩
    · exact ⟨_, _, rfl, by simp⟩
  obtain ⟨a, c, rfl, ha⟩ := hxs
  cases a with
  | none =>
    have := ha rfl; subst this
    go_enter Go.Proofs.Tryz.func120, Go.Proofs.Tryz.ntmps120
    go_wp2
    go_ret
    exact ⟨Later.refl _, .inl ⟨_, rfl⟩⟩
  | some ad =>
    obtain ⟨v', w', hr, hv⟩ := clone_tail hL hei Go.Proofs.Tryz.underlying23 w hone hlen hx hb (len_of hb hby) hpos
    go_enter Go.Proofs.Tryz.func120, Go.Proofs.Tryz.ntmps120
    clear hx hone hlen hb hL hei hby hi ha
    go_wp2_with (refine wpList_four (qb _) hr ?_)
    go_ret
    exact hv
theorem clo120 : CloneAt Go.Proofs.Tryz.prog 120 3 24 := cl120 layOk (ei := y45) rfl (by decide) ((Go.Proofs.Tryz.prog.info? 45).get (by kernel_rfl)) (Option.some_get _).symm
theorem cl121 {L : Lay} (hL : LayOk Go.Proofs.Tryz.prog L) {ei : TI} (hei : L 32 = some ei) (hby : 0 < ei.bytes) (i : TypeInfo) (hi : Go.Proofs.Tryz.prog.info? 32 = some i) : CloneAt Go.Proofs.Tryz.prog 121 ei.size ei.bytes := by
  have q33 : ∀ (w : World) (a : Option Addr) (n c n' c' : Nat), (binOp .eql 33 (.slice a n c) (.slice none n' c')).run Go.Proofs.Tryz.prog w = .ok (.bool a.isNone) w := fun w a n c n' c' => Lib.run_eql_slice_nil w _ _ a n c n' c' Go.Proofs.Tryz.underlying33
  have qb := fun w => run_build0 (P := Go.Proofs.Tryz.prog) w 33 32 i Go.Proofs.Tryz.underlying33 hi
  intro w xv m news hone hlen hx hb hpos
  have hxs : ∃ a c, xv = .slice a m c ∧ (a = none → m = 0) := by
    rcases hx with ⟨rfl, ad, c, rfl⟩ | ⟨b, off, c, rfl, _, _⟩
    · exact ⟨ad, c, rfl, fun _ => rfl⟩
    · exact ⟨_, _, rfl, by simp⟩
  obtain ⟨a, c, rfl, ha⟩ := hxs
  cases a with
  | none =>
    have := ha rfl; subst this
    go_enter Go.Proofs.Tryz.func121, Go.Proofs.Tryz.ntmps121
    go_wp2
    go_ret
    exact ⟨Later.refl _, .inl ⟨_, rfl⟩⟩
  | some ad =>
    obtain ⟨v', w', hr, hv⟩ := clone_tail hL hei Go.Proofs.Tryz.underlying33 w hone hlen hx hb (len_of hb hby) hpos
    go_enter Go.Proofs.Tryz.func121, Go.Proofs.Tryz.ntmps121
    clear hx hone hlen hb hL hei hby hi ha
    go_wp2_with (refine wpList_four (qb _) hr ?_)
    go_ret
    exact hv
theorem clo121 : CloneAt Go.Proofs.Tryz.prog 121 4 32 := cl121 layOk (ei := y32) rfl (by decide) ((Go.Proofs.Tryz.prog.info? 32).get (by kernel_rfl)) (Option.some_get _).symm
theorem cl122 {L : Lay} (hL : LayOk Go.Proofs.Tryz.prog L) {ei : TI} (hei : L 105 = some ei) (hby : 0 < ei.bytes) (i : TypeInfo) (hi : Go.Proofs.Tryz.prog.info? 105 = some i) : CloneAt Go.Proofs.Tryz.prog 122 ei.size ei.bytes := by
  have q34 : ∀ (w : World) (a : Option Addr) (n c n' c' : Nat), (binOp .eql 34 (.slice a n c) (.slice none n' c')).run Go.Proofs.Tryz.prog w = .ok (.bool a.isNone) w := fun w a n c n' c' => Lib.run_eql_slice_nil w _ _ a n c n' c' Go.Proofs.Tryz.underlying34
  have qb := fun w => run_build0 (P := Go.Proofs.Tryz.prog) w 34 105 i Go.Proofs.Tryz.underlying34 hi
  intro w xv m news hone hlen hx hb hpos
  have hxs : ∃ a c, xv = .slice a m c ∧ (a = none → m = 0) := by
    rcases hx with ⟨rfl, ad, c, rfl⟩ | ⟨b, off, c, rfl, _, _⟩
    · exact ⟨ad, c, rfl, fun _ => rfl⟩
    · exact ⟨_, _, rfl, by simp⟩
  obtain ⟨a, c, rfl, ha⟩ := hxs
  cases a with
  | none =>
    have := ha rfl; subst this
    go_enter Go.Proofs.Tryz.func122, Go.Proofs.Tryz.ntmps122
    go_wp2
    go_ret
    exact ⟨Later.refl _, .inl ⟨_, rfl⟩⟩
  | some ad =>
    obtain ⟨v', w', hr, hv⟩ := clone_tail hL hei Go.Proofs.Tryz.underlying34 w hone hlen hx hb (len_of hb hby) hpos
    go_enter Go.Proofs.Tryz.func122, Go.Proofs.Tryz.ntmps122
    clear hx hone hlen hb hL hei hby hi ha
    go_wp2_with (refine wpList_four (qb _) hr ?_)
    go_ret
    exact hv
theorem clo122 : CloneAt Go.Proofs.Tryz.prog 122 3 24 := cl122 layOk (ei := y105) rfl (by decide) ((Go.Proofs.Tryz.prog.info? 105).get (by kernel_rfl)) (Option.some_get _).symm
theorem cl123 {L : Lay} (hL : LayOk Go.Proofs.Tryz.prog L) {ei : TI} (hei : L 60 = some ei) (hby : 0 < ei.bytes) (i : TypeInfo) (hi : Go.Proofs.Tryz.prog.info? 60 = some i) : CloneAt Go.Proofs.Tryz.prog 123 ei.size ei.bytes := by
  have q35 : ∀ (w : World) (a : Option Addr) (n c n' c' : Nat), (binOp .eql 35 (.slice a n c) (.slice none n' c')).run Go.Proofs.Tryz.prog w = .ok (.bool a.isNone) w := fun w a n c n' c' => Lib.run_eql_slice_nil w _ _ a n c n' c' Go.Proofs.Tryz.underlying35
  have qb := fun w => run_build0 (P := Go.Proofs.Tryz.prog) w 35 60 i Go.Proofs.Tryz.underlying35 hi
  intro w xv m news hone hlen hx hb hpos
  have hxs : ∃ a c, xv = .slice a m c ∧ (a = none → m = 0) := by
    rcases hx with ⟨rfl, ad, c, rfl⟩ | ⟨b, off, c, rfl, _, _⟩
    · exact ⟨ad, c, rfl, fun _ => rfl⟩
    · exact ⟨_, _, rfl, by simp⟩
  obtain ⟨a, c, rfl, ha⟩ := hxs
  cases a with
  | none =>
    have := ha rfl; subst this
    go_enter Go.Proofs.Tryz.func123, Go.Proofs.Tryz.ntmps123
    go_wp2
    go_ret
    exact ⟨Later.refl _, .inl ⟨_, rfl⟩⟩
  | some ad =>
    obtain ⟨v', w', hr, hv⟩ := clone_tail hL hei Go.Proofs.Tryz.underlying35 w hone hlen hx hb (len_of hb hby) hpos
    go_enter Go.Proofs.Tryz.func123, Go.Proofs.Tryz.ntmps123
    clear hx hone hlen hb hL hei hby hi ha
    go_wp2_with (refine wpList_four (qb _) hr ?_)
    go_ret
    exact hv
theorem clo123 : CloneAt Go.Proofs.Tryz.prog 123 3 24 := cl123 layOk (ei := y60) rfl (by decide) ((Go.Proofs.Tryz.prog.info? 60).get (by kernel_rfl)) (Option.some_get _).symm
def ClP (p : Nat × IFn) : Prop := ∀ sz bytes, p.2.clone = some (sz, bytes) → CloneAt Go.Proofs.Tryz.prog p.1 sz bytes
theorem cloneOk : CloneOk Go.Proofs.Tryz.prog tbl := by
  have this : ∀ p ∈ tblL, ClP p := by
    simp only [tblL, List.forall_mem_cons]
    exact ⟨(fun _ _ h => by cases h), (fun _ _ h => by cases h), (fun _ _ h => by cases h), (fun _ _ h => by cases h), (fun _ _ h => by cases h), (fun _ _ h => by cases h), (fun _ _ h => by cases h), (fun _ _ h => by cases h), (fun _ _ h => by cases h), (fun _ _ h => by cases h), (fun _ _ h => by cases h), (fun _ _ h => by cases h), (fun _ _ h => by cases h), (fun _ _ h => by cases h), (fun _ _ h => by cases h), (fun _ _ h => by cases h), (fun _ _ h => by cases h), (fun _ _ h => by cases h), (fun _ _ h => by cases h), (fun _ _ h => by cases h), (fun _ _ h => by cases h), (fun _ _ h => by cases h), (fun _ _ h => by cases h), (fun _ _ h => by cases h), (fun _ _ h => by cases h), (fun _ _ h => by cases h), (fun _ _ h => by cases h), (fun _ _ h => by cases h), (fun _ _ h => by cases h), (fun _ _ h => by cases h), (fun _ _ h => by cases h), (fun _ _ h => by cases h), (fun _ _ h => by cases h), (fun _ _ h => by cases h), (fun _ _ h => by cases h), (fun _ _ h => by cases h), (fun _ _ h => by cases h), (fun _ _ h => by cases h), (fun _ _ h => by cases h), (fun _ _ h => by cases h), (fun _ _ h => by cases h), (fun _ _ h => by cases h), (fun _ _ h => by cases h), (fun _ _ h => by cases h), (fun _ _ h => by cases h), (fun _ _ h => by cases h), (fun _ _ h => by cases h), (fun _ _ h => by cases h), (fun _ _ h => by cases h), (fun _ _ h => by cases h), (fun _ _ h => by cases h), (fun _ _ h => by cases h), (fun _ _ h => by cases h), (fun _ _ h => by cases h), (fun _ _ h => by cases h), (fun _ _ h => by cases h), (fun _ _ h => by cases h), (fun _ _ h => by cases h), (fun _ _ h => by cases h), (fun _ _ h => by cases h), (fun _ _ h => by cases h), (fun _ _ h => by cases h), (fun _ _ h => by cases h), (fun _ _ h => by cases h), (fun _ _ h => by cases h), (fun _ _ h => by cases h), (fun _ _ h => by cases h), (fun _ _ h => by cases h), (fun _ _ h => by cases h), (fun _ _ h => by cases h), (fun _ _ h => by cases h), (fun _ _ h => by cases h), (fun _ _ h => by cases h), (fun _ _ h => by cases h), (fun _ _ h => by cases h), (fun _ _ h => by cases h), (fun _ _ h => by cases h), (fun _ _ h => by cases h), (fun _ _ h => by cases h), (fun _ _ h => by cases h), (fun _ _ h => by cases h), (fun _ _ h => by cases h), (fun _ _ h => by cases h), (fun _ _ h => by cases h; exact clo86), (fun _ _ h => by cases h; exact clo87), (fun _ _ h => by cases h), (fun _ _ h => by cases h), (fun _ _ h => by cases h), (fun _ _ h => by cases h), (fun _ _ h => by cases h), (fun _ _ h => by cases h), (fun _ _ h => by cases h), (fun _ _ h => by cases h), (fun _ _ h => by cases h), (fun _ _ h => by cases h), (fun _ _ h => by cases h), (fun _ _ h => by cases h), (fun _ _ h => by cases h), (fun _ _ h => by cases h), (fun _ _ h => by cases h), (fun _ _ h => by cases h), (fun _ _ h => by cases h), (fun _ _ h => by cases h), (fun _ _ h => by cases h), (fun _ _ h => by cases h), (fun _ _ h => by cases h), (fun _ _ h => by cases h), (fun _ _ h => by cases h), (fun _ _ h => by cases h), (fun _ _ h => by cases h), (fun _ _ h => by cases h), (fun _ _ h => by cases h), (fun _ _ h => by cases h), (fun _ _ h => by cases h), (fun _ _ h => by cases h), (fun _ _ h => by cases h), (fun _ _ h => by cases h), (fun _ _ h => by cases h; exact clo120), (fun _ _ h => by cases h; exact clo121), (fun _ _ h => by cases h; exact clo122), (fun _ _ h => by cases h; exact clo123), (fun _ _ h => by cases h), (fun _ _ h => by cases h), (fun _ _ h => by cases h), (fun _ _ h => by cases h), (fun _ _ h => by cases h), (fun _ _ h => by cases h), (fun _ _ h => by cases h), (fun _ _ h => by cases h), (fun _ _ h => by cases h), (fun _ _ h => by cases h), (fun _ _ h => by cases h), (fun _ _ h => by cases h), (fun _ _ h => by cases h), (fun _ _ h => by cases h), (fun _ _ h => by cases h), (fun _ _ h => by cases h), (fun _ _ h => by cases h), (fun _ _ h => by cases h), (fun _ _ h => by cases h), (fun _ _ h => by cases h), (fun _ _ h => by cases h), (fun _ _ h => by cases h), (fun _ _ h => by cases h), (fun _ _ h => by cases h), (fun _ _ h => by cases h), (fun _ _ h => by cases h), (fun _ _ h => by cases h), (fun _ _ h => by cases h), (fun _ _ h => by cases h), (fun _ _ h => by cases h), (fun _ _ h => by cases h), (fun _ _ h => by cases h), (fun _ _ h => by cases h), (fun _ _ h => by cases h), (fun _ _ h => by cases h), (fun _ _ h => by cases h), (fun _ _ h => by cases h), (fun _ _ h => by cases h), (fun _ _ h => by cases h), (fun _ _ h => by cases h), (fun _ _ h => by cases h), (fun _ _ h => by cases h), (fun _ _ h => by cases h), (fun _ _ h => by cases h), (fun _ _ h => by cases h), (fun _ _ h => by cases h), (fun _ _ h => by cases h), (fun _ _ h => by cases h), (fun _ _ h => by cases h), (fun _ _ h => by cases h), (fun _ _ h => by cases h), (fun _ _ h => by cases h), (fun _ _ h => by cases h), (fun _ _ h => by cases h), fun p hp => by cases hp⟩
  exact fun f d sz bytes h hc => this (f, d) (lk_mem h) sz bytes hc
theorem tieOk : Tie Go.Proofs.Tryz.prog ctx := ⟨layOk, by kernel_rfl, cloneOk, fnsOk⟩
end Ve
