/- The evaluator's steps as rewriting rules. -/
import Derived.Test.YtapgmjgledahiaaGreatVeM
import Derived.Attr
import Derived.Test.YtapgmjgledahiaaGreatVeC
set_option linter.all false
set_option linter.unusedSectionVars false
namespace Ve
open Go
section
variable {R : Type}

@[congr] theorem bindP_congr {v v' : Option V} {k : V → Option R} (e : v = v') : bindP v k = bindP v' k := by rw [e]
@[congr] theorem bindM_congr {m m' : AM Eff} {h : Hp} {n : Nat} {k : V → Hp → Nat → Option R} (e : m = m') : bindM m h n k = bindM m' h n k := by rw [e]
@[congr] theorem bindR_congr {m m' : AM Eff} {h : Hp} {n i : Nat} {rcs : List Rec} {k : V → Hp → Nat → List Rec → Option R} (e : m = m') : bindR m h n i rcs k = bindR m' h n i rcs k := by rw [e]
@[congr] theorem bindI_congr {x x' : Option (V × Hp × Nat)} {k : V → Hp → Nat → Option R} (e : x = x') : bindI x k = bindI x' k := by rw [e]
@[congr] theorem condK_congr {b b' : Option Bool} {x y : Option R} (e : b = b') : condK b x y = condK b' x y := by rw [e]
@[congr] theorem heapK_congr {bef : List (List Nat)} {rcs rcs' : List Rec} {x : Option R} (e : rcs = rcs') : heapK bef rcs x = heapK bef rcs' x := by rw [e]

theorem bindP_some (v : V) (k : V → Option R) : bindP (some v) k = k v := rfl
theorem bindM_ret (x : Eff) (h : Hp) (n : Nat) (k : V → Hp → Nat → Option R) : bindM (.ret x) h n k = k x.v (applyUpd h x.upd) (n + x.new) := rfl
theorem bindM_rdo (o : Nat) (f : Option Obj → AM Eff) (h : Hp) (n : Nat) (k : V → Hp → Nat → Option R) : bindM (.rdo o f) h n k = bindM (f (h o)) h n k := rfl
theorem bindI_some (v : V) (h : Hp) (n : Nat) (k : V → Hp → Nat → Option R) : bindI (some (v, h, n)) k = k v h n := rfl
/-- two ways on -/
def splitK (b : Bool) (x y : Option R) : Option R :=
  match b with
  | true => x
  | false => y
@[congr] theorem splitK_congr {b b' : Bool} {x y : Option R} (e : b = b') : splitK b x y = splitK b' x y := by rw [e]
theorem splitK_true (x y : Option R) : splitK true x y = x := rfl
theorem splitK_false (x y : Option R) : splitK false x y = y := rfl
theorem splitK_not (b : Bool) (x y : Option R) : splitK (!b) x y = splitK b y x := by cases b <;> rfl
theorem condK_some (b : Bool) (x y : Option R) : condK (some b) x y = splitK b x y := by cases b <;> rfl
theorem condK_true (x y : Option R) : condK (some true) x y = x := rfl
theorem condK_false (x y : Option R) : condK (some false) x y = y := rfl
theorem heapK_of {bef : List (List Nat)} {rcs : List Rec} {x : Option R} (h : heapOk bef rcs = true) : heapK bef rcs x = x := by simp [heapK, h]

/-- with what was read so far -/
def bindR' (m : AM Eff) (h : Hp) (n i : Nat) (ro : List Nat) (rcs : List Rec) (k : V → Hp → Nat → List Rec → Option R) : Option R :=
  match m.run h with
  | some x => k x.v (applyUpd h x.upd) (n + x.new) (addRec i (ro ++ m.reads h) (x.upd.map (·.1)) rcs)
  | none => none
@[congr] theorem bindR'_congr {m m' : AM Eff} {h : Hp} {n i : Nat} {ro : List Nat} {rcs : List Rec} {k : V → Hp → Nat → List Rec → Option R} (e : m = m') : bindR' m h n i ro rcs k = bindR' m' h n i ro rcs k := by rw [e]
theorem bindR_to (m : AM Eff) (h : Hp) (n i : Nat) (rcs : List Rec) (k : V → Hp → Nat → List Rec → Option R) : bindR m h n i rcs k = bindR' m h n i [] rcs k := bindR_eq m h n i rcs k
theorem bindR'_ret (x : Eff) (h : Hp) (n i : Nat) (ro : List Nat) (rcs : List Rec) (k : V → Hp → Nat → List Rec → Option R) : bindR' (.ret x) h n i ro rcs k = k x.v (applyUpd h x.upd) (n + x.new) (addRec i ro (x.upd.map (·.1)) rcs) := by
  simp [bindR', AM.run, AM.reads]
theorem bindR'_rdo (o : Nat) (f : Option Obj → AM Eff) (h : Hp) (n i : Nat) (ro : List Nat) (rcs : List Rec) (k : V → Hp → Nat → List Rec → Option R) : bindR' (.rdo o f) h n i ro rcs k = bindR' (f (h o)) h n i (ro ++ [o]) rcs k := by
  simp [bindR', AM.run, AM.reads]
end

theorem upd_nil (h : Hp) : applyUpd h [] = h := rfl
theorem upd_cons (h : Hp) (o : Nat) (x : Option Obj) (r : List (Nat × Option Obj)) : applyUpd h ((o, x) :: r) = applyUpd (putO h o x) r := rfl
theorem rd_eq {α : Type} (o : Nat) (k : Obj → AM α) : AM.rd o k = .rdo o fun | some ob => k ob | none => .fail := rfl
theorem bind_ret {α β : Type} (a : α) (f : α → AM β) : (AM.ret a).bind f = f a := rfl
theorem bind_rdo {α β : Type} (o : Nat) (k : Option Obj → AM α) (f : α → AM β) : (AM.rdo o k).bind f = .rdo o fun ob => (k ob).bind f := rfl

theorem fix_agg (L : Lay) (t : TypeId) (cs : List V) : fixNil L t (.agg cs) = .agg cs := by simp [fixNil, V.isNil]
theorem fix_int (L : Lay) (t : TypeId) (k : IntKind) (n : Int) : fixNil L t (.lit (.int k n)) = .lit (.int k n) := by simp [fixNil, V.isNil]
theorem fix_bool (L : Lay) (t : TypeId) (b : Bool) : fixNil L t (.lit (.bool b)) = .lit (.bool b) := by simp [fixNil, V.isNil]
theorem fix_sl (L : Lay) (t : TypeId) (o : Nat) : fixNil L t (.sl o) = .sl o := by simp [fixNil, V.isNil]
theorem fix_isl (L : Lay) (t : TypeId) (p nn : Bool) (sz : Nat) (els : List V) : fixNil L t (.isl p nn sz els) = .isl p nn sz els := by simp [fixNil, V.isNil]
theorem fix_own (L : Lay) (t : TypeId) (sz : Nat) (els : List V) : fixNil L t (.own sz els) = .own sz els := by simp [fixNil, V.isNil]
theorem fix_ptr (L : Lay) (t : TypeId) (o i f : Nat) : fixNil L t (.ptr o i f) = .ptr o i f := by simp [fixNil, V.isNil]
theorem fix_ip (L : Lay) (t : TypeId) (p : Bool) (row : List V) (f : Nat) : fixNil L t (.ip p row f) = .ip p row f := by simp [fixNil, V.isNil]

section
variable {L : Lay} {t : TypeId} {k : IntKind} {a b : Int}
theorem bin_add : opBin L .add t (.lit (.int k a)) (.lit (.int k b)) = some (.lit (.int k (k.wrap (a + b)))) := by simp [opBin, binOp, Op.intArith, Op.intCmp]; rfl
theorem bin_sub : opBin L .sub t (.lit (.int k a)) (.lit (.int k b)) = some (.lit (.int k (k.wrap (a - b)))) := by simp [opBin, binOp, Op.intArith, Op.intCmp]; rfl
theorem bin_mul : opBin L .mul t (.lit (.int k a)) (.lit (.int k b)) = some (.lit (.int k (k.wrap (a * b)))) := by simp [opBin, binOp, Op.intArith, Op.intCmp]; rfl
theorem bin_lss : opBin L .lss t (.lit (.int k a)) (.lit (.int k b)) = some (.lit (.bool (decide (a < b)))) := by simp [opBin, binOp, Op.intArith, Op.intCmp]; rfl
theorem bin_leq : opBin L .leq t (.lit (.int k a)) (.lit (.int k b)) = some (.lit (.bool (decide (a ≤ b)))) := by simp [opBin, binOp, Op.intArith, Op.intCmp]; rfl
theorem bin_gtr : opBin L .gtr t (.lit (.int k a)) (.lit (.int k b)) = some (.lit (.bool (decide (b < a)))) := by simp [opBin, binOp, Op.intArith, Op.intCmp]; rfl
theorem bin_geq : opBin L .geq t (.lit (.int k a)) (.lit (.int k b)) = some (.lit (.bool (decide (b ≤ a)))) := by simp [opBin, binOp, Op.intArith, Op.intCmp]; rfl
theorem bin_eql : opBin L .eql t (.lit (.int k a)) (.lit (.int k b)) = some (.lit (.bool (decide (a = b)))) := by simp [opBin, binOp, Op.intArith, Op.intCmp]; rfl
theorem bin_neq : opBin L .neq t (.lit (.int k a)) (.lit (.int k b)) = some (.lit (.bool (!decide (a = b)))) := by simp [opBin, binOp, Op.intArith, Op.intCmp]; rfl
theorem un_not {x : Bool} : opUn .not (.lit (.bool x)) = some (.lit (.bool !x)) := rfl
end

/-! one operation -/
section
variable {R : Type}
def stepO (O : Orc) (x : OpK) (g : Option Bool) (h : Hp) (n : Nat) (k : V → Hp → Nat → Option R) : Option R :=
  match x with
  | .p v => bindP (guardP g v) fun v => k v h n
  | .m m => bindM (guardM g m) h n k
  | .i f xs => bindI (guardI g h n (O f xs h n)) k
@[congr] theorem stepO_congr {O : Orc} {x x' : OpK} {g g' : Option Bool} {h : Hp} {n : Nat} {k : V → Hp → Nat → Option R} (e : x = x') (e' : g = g') : stepO O x g h n k = stepO O x' g' h n k := by rw [e, e']
theorem runOps_nil (L : Lay) (T : Tbl) (O : Orc) (P : FuncId → List V → Option V) (s : St) (k : St → Option R) : runOps L T O P [] s k = k s := rfl
theorem runOps_cons (L : Lay) (T : Tbl) (O : Orc) (P : FuncId → List V → Option V) (o : IOp) (r : List IOp) (tm : Nat → V) (h : Hp) (n : Nat) (k : St → Option R) :
    runOps L T O P (o :: r) ⟨tm, h, n⟩ k = stepO O (opK L T P (eV tm) n o.frz o.op) (wantV tm o.guard) h n fun v h n => runOps L T O P r ⟨setT tm o.dst v, h, n⟩ k := by
  simp only [runOps, stepO]
  cases opK L T P (eV tm) n o.frz o.op <;> rfl
theorem stepO_p (O : Orc) (v : Option V) (h : Hp) (n : Nat) (k : V → Hp → Nat → Option R) : stepO O (.p v) (some true) h n k = bindP v fun v => k v h n := rfl
theorem stepO_m (O : Orc) (m : AM Eff) (h : Hp) (n : Nat) (k : V → Hp → Nat → Option R) : stepO O (.m m) (some true) h n k = bindM m h n k := rfl
theorem stepO_i (O : Orc) (f : FuncId) (xs : List V) (h : Hp) (n : Nat) (k : V → Hp → Nat → Option R) : stepO O (.i f xs) (some true) h n k = bindI (O f xs h n) k := rfl
theorem stepO_not (O : Orc) (x : OpK) (h : Hp) (n : Nat) (k : V → Hp → Nat → Option R) : stepO O x (some false) h n k = k undefV h n := by
  cases x <;> simp [stepO, guardP, guardM, guardI, bindP, bindM, bindI, AM.run, applyUpd]
theorem stepO_if (O : Orc) (x : OpK) (c : Bool) (h : Hp) (n : Nat) (k : V → Hp → Nat → Option R) : stepO O x (some c) h n k = splitK c (stepO O x (some true) h n k) (k undefV h n) := by
  cases c <;> simp [stepO_not, splitK]

def stepD (x : OpK) (g : Option Bool) (h : Hp) (n i : Nat) (rcs : List Rec) (k : V → Hp → Nat → List Rec → Option R) : Option R :=
  match x with
  | .p v => bindP (guardP g v) fun v => k v h n rcs
  | .m m => bindR (guardM g m) h n i rcs k
  | .i _ _ => none
@[congr] theorem stepD_congr {x x' : OpK} {g g' : Option Bool} {h : Hp} {n i : Nat} {rcs : List Rec} {k : V → Hp → Nat → List Rec → Option R} (e : x = x') (e' : g = g') : stepD x g h n i rcs k = stepD x' g' h n i rcs k := by rw [e, e']
theorem runDraw_nil (L : Lay) (T : Tbl) (P : FuncId → List V → Option V) (i : Nat) (s : St) (rcs : List Rec) (k : St → List Rec → Option R) : runDraw L T P i [] s rcs k = k s rcs := rfl
theorem runDraw_cons (L : Lay) (T : Tbl) (P : FuncId → List V → Option V) (i : Nat) (o : IOp) (r : List IOp) (tm : Nat → V) (h : Hp) (n : Nat) (rcs : List Rec) (k : St → List Rec → Option R) :
    runDraw L T P i (o :: r) ⟨tm, h, n⟩ rcs k = stepD (opK L T P (eV tm) n o.frz o.op) (wantV tm o.guard) h n i rcs fun v h n rcs => runDraw L T P (i + 1) r ⟨setT tm o.dst v, h, n⟩ rcs k := by
  simp only [runDraw, stepD]
  cases opK L T P (eV tm) n o.frz o.op <;> rfl
theorem stepD_p (v : Option V) (h : Hp) (n i : Nat) (rcs : List Rec) (k : V → Hp → Nat → List Rec → Option R) : stepD (.p v) (some true) h n i rcs k = bindP v fun v => k v h n rcs := rfl
theorem stepD_m (m : AM Eff) (h : Hp) (n i : Nat) (rcs : List Rec) (k : V → Hp → Nat → List Rec → Option R) : stepD (.m m) (some true) h n i rcs k = bindR' m h n i [] rcs k := bindR_eq m h n i rcs k
theorem stepD_notp (v : Option V) (h : Hp) (n i : Nat) (rcs : List Rec) (k : V → Hp → Nat → List Rec → Option R) : stepD (.p v) (some false) h n i rcs k = k undefV h n rcs := rfl
theorem stepD_notm (m : AM Eff) (h : Hp) (n i : Nat) (rcs : List Rec) (k : V → Hp → Nat → List Rec → Option R) : stepD (.m m) (some false) h n i rcs k = k undefV h n rcs := by
  simp [stepD, guardM, bindR_eq, AM.run, AM.reads, applyUpd, addRec]
theorem stepD_pif (c : Bool) (v : Option V) (h : Hp) (n i : Nat) (rcs : List Rec) (k : V → Hp → Nat → List Rec → Option R) : stepD (.p v) (some c) h n i rcs k = splitK c (stepD (.p v) (some true) h n i rcs k) (k undefV h n rcs) := by
  cases c <;> simp [stepD_notp, splitK]
theorem stepD_mif (c : Bool) (m : AM Eff) (h : Hp) (n i : Nat) (rcs : List Rec) (k : V → Hp → Nat → List Rec → Option R) : stepD (.m m) (some c) h n i rcs k = splitK c (stepD (.m m) (some true) h n i rcs k) (k undefV h n rcs) := by
  cases c <;> simp [stepD_notm, splitK]

theorem want_none (tm : Nat → V) : wantV tm none = some true := rfl
theorem want_some (tm : Nat → V) (t : Tmp) (b : Bool) : wantV tm (some (t, b)) = wantB (tm t) b := rfl
theorem wantB_true (c : Bool) : wantB (.lit (.bool c)) true = some c := by cases c <;> rfl
theorem wantB_false (c : Bool) : wantB (.lit (.bool c)) false = some !c := by cases c <;> rfl
theorem wantB_undef (b : Bool) : wantB undefV b = some false := rfl
theorem setT_some (tm : Nat → V) (t : Tmp) (v : V) : setT tm (some t) v = updT tm t v := rfl
theorem setT_none (tm : Nat → V) (v : V) : setT tm none v = tm := rfl
theorem updT_if (tm : Nat → V) (d : Nat) (v : V) (i : Nat) : updT tm d v i = if i = d then v else tm i := by
  by_cases e : i = d
  · simp [updT, e]
  · have : Nat.beq i d = false := by
      cases hb : Nat.beq i d with
      | false => rfl
      | true => exact absurd (Nat.eq_of_beq_eq_true hb) e
    simp [updT, this, e]
theorem putO_if (h : Hp) (d : Nat) (v : Option Obj) (i : Nat) : putO h d v i = if i = d then v else h i := by
  by_cases e : i = d
  · simp [putO, e]
  · simp [putO_ne, e]
theorem ofLive_cons (i : Nat) (is : List Nat) (v : V) (vs : List V) (j : Nat) : ofLive (i :: is) (v :: vs) j = if j = i then v else ofLive is vs j := rfl
theorem startT_0 (v : V) (r : List V) : startT (v :: r) 0 = v := rfl
theorem startT_1 (a v : V) (r : List V) : startT (a :: v :: r) 1 = v := rfl
theorem startT_2 (a b v : V) (r : List V) : startT (a :: b :: v :: r) 2 = v := rfl
theorem startT_3 (a b c v : V) (r : List V) : startT (a :: b :: c :: v :: r) 3 = v := rfl
theorem startT_4 (a b c d v : V) (r : List V) : startT (a :: b :: c :: d :: v :: r) 4 = v := rfl
theorem startT_5 (a b c d e v : V) (r : List V) : startT (a :: b :: c :: d :: e :: v :: r) 5 = v := rfl

/-! codes -/
section
variable (C : Ctx) (O : Orc) (P : FuncId → List V → Option V) (k : Nat) (s : St) (q : Out → St → Option R)
theorem ev_skip : evC C O P k .skip s q = q .normal s := rfl
theorem ev_label (l : Nat) : evC C O P k (.label l) s q = q .normal s := rfl
theorem ev_region (ops : List IOp) : evC C O P k (.region ops none) s q = runOps C.L C.T O P ops s (q .normal) := rfl
theorem ev_draw {ops : List IOp} {bef : List (List Nat)} (h : slotsOk bef 0 ops = true) : evC C O P k (.region ops (some bef)) s q = runDraw C.L C.T P 0 ops s [] fun s rcs => heapK bef rcs (q .normal s) := by simp [evC, h]
theorem ev_seq (a b : IR) : evC C O P k (.seq a b) s q = evC C O P k a s (thenK (fun s => evC C O P k b s q) q) := rfl
theorem ev_cond (c : Operand) (a b : IR) : evC C O P k (.cond c a b) s q = condK (eV s.tm c).bool? (evC C O P k a s q) (evC C O P k b s q) := rfl
theorem ev_block (id : Nat) (b : IR) : evC C O P k (.block id b) s q = evC C O P k b s (inBlockK id q) := rfl
theorem ev_loop (live : List Nat) (b : IR) : evC C O P k (.loop live b) s q = evLoop s.n live (fun s q => evC C O P k b s (restK live q)) q k (restr live s) := rfl
theorem ev_exit (id : Nat) (live : List Nat) : evC C O P k (.exit id live) s q = q (.exit id) (restr live s) := rfl
theorem ev_goto (l : Nat) : evC C O P k (.goto l) s q = q (.goto l) s := rfl
theorem ev_ret (live : List Nat) : evC C O P k (.ret live) s q = q .ret (restr live s) := rfl
theorem ev_scope (live : List Nat) (b : IR) : evC C O P k (.scope live b) s q = evC C O P k b s (jumpK (fun l s' => evScope s.n live (hasL b) (fun l s q => evFrom C O P k b l s q) q k l (restr live s')) q) := rfl
end
theorem then_normal (k : St → Option R) (q : Out → St → Option R) (s : St) : thenK k q .normal s = k s := rfl
theorem then_exit (k : St → Option R) (q : Out → St → Option R) (i : Nat) (s : St) : thenK k q (.exit i) s = q (.exit i) s := rfl
theorem then_goto (k : St → Option R) (q : Out → St → Option R) (i : Nat) (s : St) : thenK k q (.goto i) s = q (.goto i) s := rfl
theorem then_ret (k : St → Option R) (q : Out → St → Option R) (s : St) : thenK k q .ret s = q .ret s := rfl
theorem blk_normal (i : Nat) (q : Out → St → Option R) (s : St) : inBlockK i q .normal s = q .normal s := rfl
theorem blk_exit (i : Nat) (q : Out → St → Option R) (j : Nat) (s : St) : inBlockK i q (.exit j) s = if j = i then q .normal s else q (.exit j) s := by
  simp only [inBlockK]
  by_cases e : j = i
  · simp [e]
  · have : Nat.beq j i = false := by
      cases hb : Nat.beq j i with
      | false => rfl
      | true => exact absurd (Nat.eq_of_beq_eq_true hb) e
    simp [this, e]
theorem blk_goto (i : Nat) (q : Out → St → Option R) (j : Nat) (s : St) : inBlockK i q (.goto j) s = q (.goto j) s := rfl
theorem blk_ret (i : Nat) (q : Out → St → Option R) (s : St) : inBlockK i q .ret s = q .ret s := rfl
theorem rest_normal (live : List Nat) (q : Out → St → Option R) (s : St) : restK live q .normal s = q .normal (restr live s) := rfl
theorem rest_exit (live : List Nat) (q : Out → St → Option R) (i : Nat) (s : St) : restK live q (.exit i) s = q (.exit i) s := rfl
theorem rest_goto (live : List Nat) (q : Out → St → Option R) (i : Nat) (s : St) : restK live q (.goto i) s = q (.goto i) s := rfl
theorem rest_ret (live : List Nat) (q : Out → St → Option R) (s : St) : restK live q .ret s = q .ret s := rfl
theorem jump_normal (k : Nat → St → Option R) (q : Out → St → Option R) (s : St) : jumpK k q .normal s = q .normal s := rfl
theorem jump_exit (k : Nat → St → Option R) (q : Out → St → Option R) (i : Nat) (s : St) : jumpK k q (.exit i) s = q (.exit i) s := rfl
theorem jump_goto (k : Nat → St → Option R) (q : Out → St → Option R) (i : Nat) (s : St) : jumpK k q (.goto i) s = k i s := rfl
theorem jump_ret (k : Nat → St → Option R) (q : Out → St → Option R) (s : St) : jumpK k q .ret s = q .ret s := rfl
theorem restr_eq (live : List Nat) (tm : Nat → V) (h : Hp) (n : Nat) : restr live ⟨tm, h, n⟩ = ⟨ofLive live (live.map tm), h, n⟩ := rfl
theorem evLoop_succ (thr : Nat) (live : List Nat) (f : St → (Out → St → Option R) → Option R) (q : Out → St → Option R) (k : Nat) (s : St) :
    evLoop thr live f q (k + 1) s = normK thr live s fun s => f s fun o s => thenK (evLoop thr live f q k) q o s := rfl
@[congr] theorem normK_congr {thr : Nat} {live : List Nat} {s s' : St} {k : St → Option R} (e : s = s') : normK thr live s k = normK thr live s' k := by rw [e]
@[congr] theorem evLoop_congr {thr : Nat} {live : List Nat} {f : St → (Out → St → Option R) → Option R} {q : Out → St → Option R} {k : Nat} {s s' : St} (e : s = s') : evLoop thr live f q k s = evLoop thr live f q k s' := by rw [e]
@[congr] theorem evC_congr {C : Ctx} {O : Orc} {P : FuncId → List V → Option V} {k : Nat} {b : IR} {s s' : St} {q : Out → St → Option R} (e : s = s') : evC C O P k b s q = evC C O P k b s' q := by rw [e]
@[congr] theorem runOps_congr {L : Lay} {T : Tbl} {O : Orc} {P : FuncId → List V → Option V} {ops : List IOp} {s s' : St} {k : St → Option R} (e : s = s') : runOps L T O P ops s k = runOps L T O P ops s' k := by rw [e]
end
attribute [go_sem] restr_eq
attribute [go_sem] want_none want_some wantB_true wantB_false wantB_undef setT_some setT_none updT_if putO_if ofLive_cons startT_0 startT_1 startT_2 startT_3 startT_4 startT_5

/-! what an operation is -/
section
variable (L : Lay) (T : Tbl) (P : FuncId → List V → Option V) (e : Operand → V) (n : Nat) (z : Bool)
theorem k_move (x : Operand) : opK L T P e n z (.move x) = .p (some (e x)) := rfl
theorem k_assign (x : Operand) : opK L T P e n z (.assign x) = .p (some (e x)) := rfl
theorem k_pick (c a b : Operand) : opK L T P e n z (.pick c a b) = .p (opPick (e c) (e a) (e b)) := rfl
theorem k_alloc (t : TypeId) : opK L T P e n z (.alloc t) = .m (opAlloc L n t) := rfl
theorem k_boxT (t : TypeId) (x : Operand) : opK L T P e n true (.box t x) = .m (opNewI L t (e x)) := rfl
theorem k_boxF (t : TypeId) (x : Operand) : opK L T P e n false (.box t x) = .m (opNew L n t (e x)) := rfl
theorem k_build (t : TypeId) (ps : Array (Nat × Operand)) : opK L T P e n z (.build t ps) = .p (opBuild L t (ps.toList.map fun p => (p.1, e p.2))) := rfl
theorem k_buildSlice (t : TypeId) (len : Nat) (ps : Array (Nat × Operand)) : opK L T P e n z (.buildSlice t len ps) = .m (opBuildSlice L n t len (ps.toList.map fun p => (p.1, e p.2))) := rfl
theorem k_load (t : TypeId) (x : Operand) : opK L T P e n z (.load t x) = .m (opLoad L n t (e x)) := rfl
theorem k_store (t : TypeId) (x v : Operand) : opK L T P e n z (.store t x v) = .m (opStore L t (e x) (e v)) := rfl
theorem k_nilCheck (x : Operand) : opK L T P e n z (.nilCheck x) = .p (opNilCheck (e x)) := rfl
theorem k_bin (op : BinOp) (t : TypeId) (x y : Operand) (u : TypeId) : opK L T P e n z (.binOp op t x y u) = .p (opBin L op t (e x) (e y)) := rfl
theorem k_un (op : UnOp) (t : TypeId) (x : Operand) : opK L T P e n z (.unOp op t x) = .p (opUn op (e x)) := rfl
theorem k_convert (s d : TypeId) (x : Operand) : opK L T P e n z (.convert s d x) = .p (opConvert L s d (e x)) := rfl
theorem k_makeFunc (f : Fn) (a b : Array Operand) : opK L T P e n z (.makeFunc f a b) = .p (some (.fn f (a.toList.map e) (b.toList.map e))) := rfl
theorem k_slice (t : TypeId) (x : Operand) (lo hi mx : Option Operand) : opK L T P e n z (.slice t x lo hi mx) = .p (opSlice L t (e x) (lo.map e) (hi.map e) (mx.map e)) := rfl
theorem k_fieldAddr (s : TypeId) (x : Operand) (f : Nat) : opK L T P e n z (.fieldAddr s x f) = .p (opFieldAddr L s (e x) f) := rfl
theorem k_indexAddr (t : TypeId) (x i : Operand) : opK L T P e n false (.indexAddr t x i) = .m (opIndexAddr L t (e x) (e i)) := rfl
theorem k_indexAddrO (t : TypeId) (x i : Operand) : opK L T P e n true (.indexAddr t x i) = .m (opIndexAddrO L n t (e x) (e i)) := rfl
theorem k_field (t : TypeId) (x : Operand) (f : Nat) : opK L T P e n z (.field t x f) = .p (opField L t (e x) f) := rfl
theorem k_index (t : TypeId) (x i : Operand) : opK L T P e n z (.index t x i) = .p (opIndex L t (e x) (e i)) := rfl
theorem k_extract (x : Operand) (i : Nat) : opK L T P e n z (.extract x i) = .p (opExtract (e x) i) := rfl
theorem k_len (x : Operand) (t : TypeId) : opK L T P e n z (.call { callee := .builtin .len, args := #[x], argTypes := #[t] }) = .m (lenOfV (e x)) := rfl
theorem k_min (xs : Array Operand) (ts : Array TypeId) : opK L T P e n z (.call { callee := .builtin .min, args := xs, argTypes := ts }) = .p (minInt (xs.toList.map e)) := rfl
theorem k_max (xs : Array Operand) (ts : Array TypeId) : opK L T P e n z (.call { callee := .builtin .max, args := xs, argTypes := ts }) = .p (maxInt (xs.toList.map e)) := rfl
theorem k_append (s x : Operand) (t : TypeId) : opK L T P e n z (.call { callee := .builtin .append, args := #[s, x], argTypes := #[t, t] }) = .m (opAppend L n t (e s) (e x)) := by
  show (match Nat.beq t t with
    | true => OpK.m (opAppend L n t (e s) (e x))
    | false => .p none) = _
  rw [Nat.beq_refl]
theorem k_call (f : Operand) (xs : Array Operand) (ts : Array TypeId) : opK L T P e n z (.call { callee := .value f, args := xs, argTypes := ts }) = opCall T P n z (e f) (xs.toList.map e) := rfl
end
attribute [go_sem] k_move k_assign k_pick k_alloc k_boxT k_boxF k_build k_buildSlice k_load k_store k_nilCheck k_bin k_un k_convert k_makeFunc k_slice k_fieldAddr k_indexAddr k_indexAddrO opIndexAddrO k_index k_field k_extract k_len k_min k_max k_append k_call
theorem eV_tmp (tm : Nat → V) (t : Tmp) : eV tm (.tmp t) = tm t := rfl
theorem eV_const (tm : Nat → V) (v : Value) : eV tm (.const v) = .lit v := rfl
theorem eV_func (tm : Nat → V) (f : FuncId) : eV tm (.func f) = .fn (.func f) [] [] := rfl
attribute [go_sem] eV_tmp eV_const eV_func List.map_cons List.map_nil List.toList_toArray Option.map_some Option.map_none
attribute [go_sem] upd_nil upd_cons rd_eq bind_ret bind_rdo fix_agg fix_int fix_bool fix_sl fix_isl fix_own fix_ptr fix_ip bin_add bin_sub bin_mul bin_lss bin_leq bin_gtr bin_geq bin_eql bin_neq un_not
attribute [go_sem] opNilCheck opFieldAddr opField fieldTy fieldOff lenOfV noUpd V.int? V.bool? opPick opExtract

theorem evBody_of {C : Ctx} {O : Orc} {k f : Nat} {args : List V} {hp : Hp} {n : Nat} {d : IFn} (h : C.T f = some d) : evBody C O k f args hp n = evC C O (pureOf O) k d.body ⟨startT args, hp, n⟩ (endK C.L d) := by simp [evBody, h]
/-- a call in a frame of its own; in the caller's; slices.Clone -/
abbrev CallP (T : Tbl) (g : Nat) (owns : List Bool) : Prop := ∀ (P : FuncId → List V → Option V) (n : Nat) (z : Bool) (a c args : List V), opCall T P n z (.fn (.func g) a c) args = .m (opCallPure P owns n z g (a ++ args ++ c))
abbrev CallI (T : Tbl) (g : Nat) : Prop := ∀ (P : FuncId → List V → Option V) (n : Nat) (z : Bool) (a c args : List V), opCall T P n z (.fn (.func g) a c) args = .i g (a ++ args ++ c)
abbrev CallC (T : Tbl) (g sz by_ : Nat) : Prop := ∀ (P : FuncId → List V → Option V) (n : Nat) (z : Bool) (v : V), opCall T P n z (.fn (.func g) [] []) [v] = .m (opClone n sz by_ v)

/-- it ends so -/
def Fin (x : Option Ans) (Q : V → Hp → Nat → Prop) : Prop := ∃ v h n, x = some (v, h, n) ∧ Q v h n
theorem fin_split {b : Bool} {x y : Option Ans} {Q : V → Hp → Nat → Prop} (h1 : b = true → Fin x Q) (h2 : b = false → Fin y Q) : Fin (splitK b x y) Q := by
  cases b
  · exact h2 rfl
  · exact h1 rfl
theorem fin_some (v : V) (h : Hp) (n : Nat) (Q : V → Hp → Nat → Prop) : Fin (some (v, h, n)) Q = Q v h n := by
  refine propext ⟨fun ⟨v', h', n', e, hq⟩ => ?_, fun hq => ⟨v, h, n, rfl, hq⟩⟩
  cases e; exact hq
/-- what an answer comes to, for the caller -/
def ClQ (r v : V) (h : Hp) (_ : Nat) : Prop :=
  match (close 0 depth v).run h with
  | some (v', ks) => ks.Nodup ∧ v'.perm = true ∧ v'.nice = true ∧ v' = r
  | none => False
def endR (L : Lay) (rs : List ResultVar) (ts : List TypeId) : Out → St → Option Ans
  | .normal, s => resultsK L s.tm rs ts s.hp s.n fun vs hp n => some (oneOrTup vs, hp, n)
  | .ret, s => resultsK L s.tm rs ts s.hp s.n fun vs hp n => some (oneOrTup vs, hp, n)
  | _, _ => none
theorem endR_normal (L : Lay) (rs : List ResultVar) (ts : List TypeId) (s : St) : endR L rs ts .normal s = resultsK L s.tm rs ts s.hp s.n fun vs hp n => some (oneOrTup vs, hp, n) := rfl
theorem endR_ret (L : Lay) (rs : List ResultVar) (ts : List TypeId) (s : St) : endR L rs ts .ret s = resultsK L s.tm rs ts s.hp s.n fun vs hp n => some (oneOrTup vs, hp, n) := rfl
theorem res_nil (L : Lay) (tm : Nat → V) (ts : List TypeId) (h : Hp) (n : Nat) (k : List V → Hp → Nat → Option Ans) : resultsK L tm [] ts h n k = k [] h n := rfl
theorem res_tmp (L : Lay) (tm : Nat → V) (t : Tmp) (r : List ResultVar) (y : TypeId) (ts : List TypeId) (h : Hp) (n : Nat) (k : List V → Hp → Nat → Option Ans) :
    resultsK L tm (.tmp t :: r) (y :: ts) h n k = resultsK L tm r ts h n fun vs h n => k (fixNil L y (tm t) :: vs) h n := rfl
theorem res_cell (L : Lay) (tm : Nat → V) (a : Tmp) (t : TypeId) (r : List ResultVar) (y : TypeId) (ts : List TypeId) (h : Hp) (n : Nat) (k : List V → Hp → Nat → Option Ans) :
    resultsK L tm (.cell a t :: r) (y :: ts) h n k = bindM (opLoad L n t (tm a)) h n fun v h n => resultsK L tm r ts h n fun vs h n => k (v :: vs) h n := rfl
theorem one_1 (v : V) : oneOrTup [v] = v := rfl
theorem one_0 : oneOrTup [] = .tup [] := rfl
theorem one_2 (a b : V) (r : List V) : oneOrTup (a :: b :: r) = .tup (a :: b :: r) := rfl
attribute [go_sem] fin_some one_0 one_1 one_2
theorem sp_of {C : Ctx} {j : Nat} {g : FuncId} {xs : List V} {r : V} {nt : Nat} {rs : List ResultVar} {ts : List TypeId} {b : IR} {ow : List Bool} {inl : Bool} {cl : Option (Nat × Nat)} (hd : C.T g = some ⟨nt, rs, ts, b, ow, inl, cl⟩) (k : Nat)
    (hx : xs.all V.nice1 = true)
    (h : Fin (evC C (Lv C j) (pureOf (Lv C j)) k b ⟨startT (openVs 0 xs).1, hpOf (openVs 0 xs).2, (openVs 0 xs).2.length⟩ (endR C.L rs ts)) (ClQ r)) : pureOf (Lv C (j + 1)) g xs = some r := by
  obtain ⟨v, hp, n, h1, h2⟩ := h
  have h3 : evBody C (Lv C j) k g (openVs 0 xs).1 (hpOf (openVs 0 xs).2) (openVs 0 xs).2.length = some (v, hp, n) := by
    rw [evBody_of hd, ← h1]; rfl
  have h4 := lv_of h3
  simp only [ClQ] at h2
  simp only [pureOf, h4]
  split at h2
  · rename_i v' ks hc
    rw [hc]
    obtain ⟨a, b, c, rfl⟩ := h2
    simp only [a, b, c, hx, and_self, if_true]
  · exact h2.elim

theorem oVs_nil (n : Nat) : openVs n [] = ([], []) := rfl
theorem oVs_lit (n : Nat) (v : Value) (r : List V) : openVs n (.lit v :: r) = (.lit v :: (openVs n r).1, (openVs n r).2) := rfl
theorem oVs_isl (n : Nat) (p nn : Bool) (sz : Nat) (els : List V) (r : List V) : openVs n (.isl p nn sz els :: r) = (.isl p nn sz els :: (openVs n r).1, (openVs n r).2) := rfl
theorem oVs_ip (n : Nat) (p : Bool) (row : List V) (off : Nat) (r : List V) : openVs n (.ip p row off :: r) = (.ip p row off :: (openVs n r).1, (openVs n r).2) := rfl
theorem oVs_fn (n : Nat) (f : Fn) (a b : List V) (r : List V) : openVs n (.fn f a b :: r) = (.fn f a b :: (openVs n r).1, (openVs n r).2) := rfl
theorem oVs_own (n : Nat) (sz : Nat) (els : List V) (r : List V) : openVs n (.own sz els :: r) = (.sl n :: (openVs (n + 1) r).1, ⟨sz, els, false⟩ :: (openVs (n + 1) r).2) := rfl
theorem oVs_agg (n : Nat) (cs : List V) (r : List V) : openVs n (.agg cs :: r) = (.agg (openCells n cs).1 :: (openVs (n + (openCells n cs).2.length) r).1, (openCells n cs).2 ++ (openVs (n + (openCells n cs).2.length) r).2) := rfl
theorem oC_nil (n : Nat) : openCells n [] = ([], []) := rfl
theorem oC_lit (n : Nat) (v : Value) (r : List V) : openCells n (.lit v :: r) = (.lit v :: (openCells n r).1, (openCells n r).2) := rfl
theorem oC_isl (n : Nat) (p nn : Bool) (sz : Nat) (els : List V) (r : List V) : openCells n (.isl p nn sz els :: r) = (.isl p nn sz els :: (openCells n r).1, (openCells n r).2) := rfl
theorem oC_sl (n o : Nat) (r : List V) : openCells n (.sl o :: r) = (.sl o :: (openCells n r).1, (openCells n r).2) := rfl
theorem oC_ip (n : Nat) (p : Bool) (row : List V) (off : Nat) (r : List V) : openCells n (.ip p row off :: r) = (.ip p row off :: (openCells n r).1, (openCells n r).2) := rfl
theorem oC_ptr (n o i f : Nat) (r : List V) : openCells n (.ptr o i f :: r) = (.ptr o i f :: (openCells n r).1, (openCells n r).2) := rfl
theorem oC_fn (n : Nat) (f : Fn) (a b : List V) (r : List V) : openCells n (.fn f a b :: r) = (.fn f a b :: (openCells n r).1, (openCells n r).2) := rfl
theorem oC_own (n : Nat) (sz : Nat) (els : List V) (r : List V) : openCells n (.own sz els :: r) = (.sl n :: (openCells (n + 1) r).1, ⟨sz, els, false⟩ :: (openCells (n + 1) r).2) := rfl
theorem oV_lit (n : Nat) (v : Value) : openV n (.lit v) = (.lit v, []) := rfl
theorem oV_isl (n : Nat) (p nn : Bool) (sz : Nat) (els : List V) : openV n (.isl p nn sz els) = (.isl p nn sz els, []) := rfl
theorem oV_fn (n : Nat) (f : Fn) (a b : List V) : openV n (.fn f a b) = (.fn f a b, []) := rfl
theorem oV_ip (n : Nat) (p : Bool) (row : List V) (off : Nat) : openV n (.ip p row off) = (.ip p row off, []) := rfl
theorem oV_own (n : Nat) (sz : Nat) (els : List V) : openV n (.own sz els) = (.sl n, [⟨sz, els, false⟩]) := rfl
theorem oV_agg (n : Nat) (cs : List V) : openV n (.agg cs) = (.agg (openCells n cs).1, (openCells n cs).2) := rfl
theorem im_tup (n : Nat) (vs : List V) : importV n (.tup vs) = (.tup (openVs n vs).1, (openVs n vs).2) := rfl
theorem im_lit (n : Nat) (v : Value) : importV n (.lit v) = (.lit v, []) := rfl
theorem im_isl (n : Nat) (p nn : Bool) (sz : Nat) (els : List V) : importV n (.isl p nn sz els) = (.isl p nn sz els, []) := rfl
theorem im_fn (n : Nat) (f : Fn) (a b : List V) : importV n (.fn f a b) = (.fn f a b, []) := rfl
theorem im_own (n : Nat) (sz : Nat) (els : List V) : importV n (.own sz els) = (.sl n, [⟨sz, els, false⟩]) := rfl
theorem im_agg (n : Nat) (cs : List V) : importV n (.agg cs) = (.agg (openCells n cs).1, (openCells n cs).2) := rfl
theorem num_nil (n : Nat) : numbered n [] = [] := rfl
theorem num_cons (n : Nat) (o : Obj) (r : List Obj) : numbered n (o :: r) = (n, some o) :: numbered (n + 1) r := rfl
attribute [go_sem] oVs_nil oVs_lit oVs_isl oVs_ip oVs_fn oVs_own oVs_agg oC_nil oC_lit oC_isl oC_sl oC_ip oC_ptr oC_fn oC_own oV_lit oV_isl oV_fn oV_ip oV_own oV_agg im_tup im_lit im_isl im_fn im_own im_agg num_nil num_cons hpOf
attribute [go_sem] List.getElem?_cons_zero List.getElem?_cons_succ List.take_succ_cons List.take_zero List.drop_succ_cons List.drop_zero List.length_cons List.length_nil List.headD_cons List.cons_append List.nil_append List.append_nil List.set_cons_zero List.set_cons_succ List.tail_cons List.flatten_nil List.flatten_cons List.length_map V.cells V.withCells List.contains_nil
theorem fz_lit (v : Value) : V.fz (.lit v) = .lit v := by simp [V.fz]
theorem fz_isl (p nn : Bool) (sz : Nat) (els : List V) : V.fz (.isl p nn sz els) = .isl p nn sz els := by simp [V.fz]
theorem fz_own (sz : Nat) (els : List V) : V.fz (.own sz els) = .isl true false sz (fzs els) := by simp [V.fz]
theorem fz_agg (cs : List V) : V.fz (.agg cs) = .agg (fzs cs) := by simp [V.fz]
theorem fz_tup (cs : List V) : V.fz (.tup cs) = .tup (fzs cs) := by simp [V.fz]
theorem fzs_nil : fzs [] = [] := by simp [fzs]
theorem fzs_cons (v : V) (r : List V) : fzs (v :: r) = v.fz :: fzs r := by simp [fzs]
theorem bz_lit (v : Value) : V.bz (.lit v) = .lit v := by simp [V.bz]
theorem bz_isl (p nn : Bool) (sz : Nat) (els : List V) : V.bz (.isl p nn sz els) = .isl p nn sz els := by simp [V.bz]
theorem bz_own (sz : Nat) (els : List V) : V.bz (.own sz els) = .isl false false sz (bzs els) := by simp [V.bz]
theorem bz_agg (cs : List V) : V.bz (.agg cs) = .agg (bzs cs) := by simp [V.bz]
theorem bzs_nil : bzs [] = [] := by simp [bzs]
theorem bzs_cons (v : V) (r : List V) : bzs (v :: r) = v.bz :: bzs r := by simp [bzs]
theorem fzs_map {α : Type} (f g : α → V) (h : ∀ x, (f x).fz = g x) : ∀ l : List α, fzs (l.map f) = l.map g
  | [] => by simp [fzs]
  | a :: l => by simp [fzs, h, fzs_map f g h l]
theorem bzs_map {α : Type} (f g : α → V) (h : ∀ x, (f x).bz = g x) : ∀ l : List α, bzs (l.map f) = l.map g
  | [] => by simp [bzs]
  | a :: l => by simp [bzs, h, bzs_map f g h l]
theorem eW_fz (l : List TWord) : fzs (l.map eW) = l.map eW := fzs_map _ _ (fun _ => by simp [eW, V.fz, fzs]) l
theorem eI_fz (l : List TInst) : fzs (l.map eI) = l.map eI := fzs_map _ _ (fun _ => by simp [eI, V.fz, fzs]) l
theorem eR_fz (l : List TRead) : fzs (l.map eR) = l.map eR := fzs_map _ _ (fun _ => by simp [eR, V.fz, fzs]) l
theorem eWr_fz (l : List TWrite) : fzs (l.map eWr) = l.map eWr := fzs_map _ _ (fun _ => by simp [eWr, V.fz, fzs]) l
theorem eE_fz (l : List TEvent) : fzs (l.map eE) = l.map eE := fzs_map _ _ (fun _ => by simp [eE, V.fz, fzs]) l
theorem eSl_fz (l : List TSlot) : fzs (l.map eSl) = l.map eSl := fzs_map _ _ (fun _ => by simp [eSl, V.fz, fzs]) l
theorem oS_fz (l : List TSess) : fzs (l.map oS) = l.map (eS true) := fzs_map _ _ (fun _ => by simp [oS, eS, V.fz, fzs, eI_fz, eR_fz, eWr_fz]) l
theorem oS_fz1 (x : TSess) : (oS x).fz = eS true x := by simp [oS, eS, V.fz, fzs, eI_fz, eR_fz, eWr_fz]
theorem eW_bz (l : List TWord) : bzs (l.map eW) = l.map eW := bzs_map _ _ (fun _ => by simp [eW, V.bz, bzs]) l
theorem eI_bz (l : List TInst) : bzs (l.map eI) = l.map eI := bzs_map _ _ (fun _ => by simp [eI, V.bz, bzs]) l
theorem eR_bz (l : List TRead) : bzs (l.map eR) = l.map eR := bzs_map _ _ (fun _ => by simp [eR, V.bz, bzs]) l
theorem eWr_bz (l : List TWrite) : bzs (l.map eWr) = l.map eWr := bzs_map _ _ (fun _ => by simp [eWr, V.bz, bzs]) l
theorem eE_bz (l : List TEvent) : bzs (l.map eE) = l.map eE := bzs_map _ _ (fun _ => by simp [eE, V.bz, bzs]) l
theorem eSl_bz (l : List TSlot) : bzs (l.map eSl) = l.map eSl := bzs_map _ _ (fun _ => by simp [eSl, V.bz, bzs]) l
theorem oS_bz (l : List TSess) : bzs (l.map oS) = l.map (eS false) := bzs_map _ _ (fun _ => by simp [oS, eS, V.bz, bzs, eI_bz, eR_bz, eWr_bz]) l
attribute [go_sem] fz_lit fz_isl fz_own fz_agg fz_tup fzs_nil fzs_cons bz_lit bz_isl bz_own bz_agg bzs_nil bzs_cons eW_fz eI_fz eR_fz eWr_fz eE_fz eSl_fz oS_fz oS_fz1 eW_bz eI_bz eR_bz eWr_bz eE_bz eSl_bz oS_bz
/-! handing over -/
theorem am_nil {α β : Type} (f : α → AM β) : amMap f [] = .ret [] := rfl
theorem am_cons {α β : Type} (f : α → AM β) (a : α) (r : List α) : amMap f (a :: r) = (f a).bind fun b => (amMap f r).bind fun bs => .ret (b :: bs) := rfl
theorem am_map {α β γ : Type} (f : β → AM γ) (g : α → β) (e : α → γ) (h : ∀ x, f (g x) = .ret (e x)) : ∀ l : List α, amMap f (l.map g) = .ret (l.map e)
  | [] => rfl
  | a :: l => by simp [amMap, h, am_map f g e h l, bind_ret]
theorem bind_assoc {α β γ : Type} (m : AM α) (f : α → AM β) (g : β → AM γ) : (m.bind f).bind g = m.bind fun a => (f a).bind g := by
  induction m with
  | ret a => rfl
  | fail => rfl
  | rdo o k ih => simp only [AM.bind]; congr 1; funext ob; exact ih ob
theorem am_ret {β γ : Type} (f : β → AM γ) (g : β → γ) : ∀ l : List β, (∀ y ∈ l, f y = .ret (g y)) → amMap f l = .ret (l.map g)
  | [], _ => rfl
  | a :: l, h => by simp [amMap, h a (by simp), am_ret f g l (fun y hy => h y (by simp [hy])), bind_ret]
theorem am_set {β γ : Type} (f : β → AM γ) (g : β → γ) (x : β) : ∀ (l : List β) (i : Nat), (∀ y ∈ l, f y = .ret (g y)) → i < l.length → amMap f (l.set i x) = (f x).bind fun y => .ret ((l.map g).set i y)
  | [], i, _, hi => by simp at hi
  | a :: l, 0, h, _ => by
    simp [amMap, am_ret f g l (fun y hy => h y (by simp [hy])), bind_ret]
  | a :: l, i + 1, h, hi => by
    have ih := am_set f g x l i (fun y hy => h y (by simp [hy])) (by simpa using hi)
    simp only [List.set_cons_succ, amMap, h a (by simp), bind_ret, ih, List.map_cons, bind_assoc]
theorem re_lit (d : Nat) (v : Value) : reify (d + 1) (.lit v) = .ret (.lit v) := rfl
theorem re_isl (d : Nat) (p nn : Bool) (sz : Nat) (els : List V) : reify (d + 1) (.isl p nn sz els) = .ret (.isl p nn sz els) := rfl
theorem re_ip (d : Nat) (p : Bool) (row : List V) (off : Nat) : reify (d + 1) (.ip p row off) = .ret (.ip p row off) := rfl
theorem re_own (d : Nat) (sz : Nat) (els : List V) : reify (d + 1) (.own sz els) = .ret (.isl false false sz (bzs els)) := rfl
theorem re_agg (d : Nat) (cs : List V) : reify (d + 1) (.agg cs) = (amMap (reify d) cs).bind fun cs => .ret (.agg cs) := rfl
theorem re_tup (d : Nat) (cs : List V) : reify (d + 1) (.tup cs) = (amMap (reify d) cs).bind fun cs => .ret (.tup cs) := rfl
theorem re_fn (d : Nat) (f : Fn) (a b : List V) : reify (d + 1) (.fn f a b) = (amMap (reify d) a).bind fun a => (amMap (reify d) b).bind fun b => .ret (.fn f a b) := rfl
theorem re_sl (d o : Nat) : reify (d + 1) (.sl o) = .rd o fun ob => if ob.dirty then (amMap (reify d) ob.els).bind fun els => .ret (.isl false false ob.sz els) else .ret (.isl false false ob.sz (bzs ob.els)) := rfl
theorem re_ptr (d o i off : Nat) : reify (d + 1) (.ptr o i off) = .rd o fun ob => match ob.els[i]? with
    | some el => (amMap (reify d) el.cells).bind fun row => .ret (.ip false row off)
    | none => .fail := rfl
theorem cl_lit (thr d : Nat) (v : Value) : close thr (d + 1) (.lit v) = .ret (.lit v, []) := rfl
theorem cl_isl (thr d : Nat) (p nn : Bool) (sz : Nat) (els : List V) : close thr (d + 1) (.isl p nn sz els) = .ret (.isl p nn sz els, []) := rfl
theorem cl_own (thr d : Nat) (sz : Nat) (els : List V) : close thr (d + 1) (.own sz els) = .ret (.own sz els, []) := rfl
theorem cl_agg (thr d : Nat) (cs : List V) : close thr (d + 1) (.agg cs) = (amMap (close thr d) cs).bind fun x => .ret (.agg (x.map (·.1)), (x.map (·.2)).flatten) := rfl
theorem cl_tup (thr d : Nat) (cs : List V) : close thr (d + 1) (.tup cs) = (amMap (close thr d) cs).bind fun x => .ret (.tup (x.map (·.1)), (x.map (·.2)).flatten) := rfl
theorem cl_sl (d o : Nat) : close 0 (d + 1) (.sl o) = .rdo o fun
    | none => .ret (.dead, [])
    | some ob => if ob.dirty then (amMap (close 0 d) ob.els).bind fun x => if perms (x.map (·.1)) then .ret (.own ob.sz (x.map (·.1)), o :: (x.map (·.2)).flatten) else .fail
      else .ret (.own ob.sz ob.els, [o]) := rfl
attribute [go_sem] am_nil am_cons re_lit re_isl re_ip re_own re_agg re_tup re_fn re_sl re_ptr cl_lit cl_isl cl_own cl_agg cl_tup cl_sl

def ClR (r : V) (m : AM (V × List Nat)) (h : Hp) : Prop :=
  match m.run h with
  | some (v', ks) => ks.Nodup ∧ v'.perm = true ∧ v'.nice = true ∧ v' = r
  | none => False
theorem clQ_eq (r v : V) (h : Hp) (n : Nat) : ClQ r v h n = ClR r (close 0 6 v) h := rfl
theorem clR_ret (r v : V) (ks : List Nat) (h : Hp) : ClR r (.ret (v, ks)) h = (ks.Nodup ∧ v.perm = true ∧ v.nice = true ∧ v = r) := rfl
theorem clR_rdo (r : V) (o : Nat) (f : Option Obj → AM (V × List Nat)) (h : Hp) : ClR r (.rdo o f) h = ClR r (f (h o)) h := rfl
theorem perm_lit (v : Value) : V.perm (.lit v) = true := by simp [V.perm]
theorem perm_own (sz : Nat) (els : List V) : V.perm (.own sz els) = true := by simp [V.perm]
theorem perm_isl (p nn : Bool) (sz : Nat) (els : List V) : V.perm (.isl p nn sz els) = p := by simp [V.perm]
theorem perm_agg (cs : List V) : V.perm (.agg cs) = perms cs := by simp [V.perm]
theorem perm_tup (cs : List V) : V.perm (.tup cs) = perms cs := by simp [V.perm]
theorem perm_sl (o : Nat) : V.perm (.sl o) = false := by simp [V.perm]
theorem perm_ip (p : Bool) (row : List V) (off : Nat) : V.perm (.ip p row off) = p := by simp [V.perm]
theorem perm_fn (f : Fn) (a b : List V) : V.perm (.fn f a b) = (perms a && perms b) := by simp [V.perm]
theorem perm_ptr (o i f : Nat) : V.perm (.ptr o i f) = false := by simp [V.perm]
theorem perms_nil : perms [] = true := by simp [perms]
theorem perms_cons (v : V) (r : List V) : perms (v :: r) = (v.perm && perms r) := by simp [perms]
theorem perms_map {α : Type} (f : α → V) (h : ∀ x, (f x).perm = true) : ∀ l : List α, perms (l.map f) = true
  | [] => by simp [perms]
  | a :: l => by simp [perms, h, perms_map f h l]
theorem perms_eW (l : List TWord) : perms (l.map eW) = true := perms_map _ (fun _ => by simp [eW, V.perm, perms]) l
theorem perms_eI (l : List TInst) : perms (l.map eI) = true := perms_map _ (fun _ => by simp [eI, V.perm, perms]) l
theorem perms_eR (l : List TRead) : perms (l.map eR) = true := perms_map _ (fun _ => by simp [eR, V.perm, perms]) l
theorem perms_eWr (l : List TWrite) : perms (l.map eWr) = true := perms_map _ (fun _ => by simp [eWr, V.perm, perms]) l
theorem perms_eE (l : List TEvent) : perms (l.map eE) = true := perms_map _ (fun _ => by simp [eE, V.perm, perms]) l
theorem perms_oS (l : List TSess) : perms (l.map oS) = true := perms_map _ (fun _ => by simp [oS, V.perm, perms]) l
theorem nr_lit (v : Value) : V.nr (.lit v) = true := by simp [V.nr]
theorem nr_own (sz : Nat) (els : List V) : V.nr (.own sz els) = true := by simp [V.nr]
theorem nr_isl (p nn : Bool) (sz : Nat) (els : List V) : V.nr (.isl p nn sz els) = true := by simp [V.nr]
theorem nr_agg (cs : List V) : V.nr (.agg cs) = nrs cs := by simp [V.nr]
theorem nr_sl (o : Nat) : V.nr (.sl o) = false := by simp [V.nr]
theorem nr_ip (p : Bool) (row : List V) (off : Nat) : V.nr (.ip p row off) = true := by simp [V.nr]
theorem nr_ptr (o i f : Nat) : V.nr (.ptr o i f) = false := by simp [V.nr]
theorem nr_fn (f : Fn) (a b : List V) : V.nr (.fn f a b) = (nrs a && nrs b) := by simp [V.nr]
theorem nrs_nil : nrs [] = true := by simp [nrs]
theorem nrs_cons (v : V) (r : List V) : nrs (v :: r) = (v.nr && nrs r) := by simp [nrs]
theorem nice_lit (v : Value) : V.nice (.lit v) = ones [.lit v] := rfl
theorem nice_isl (p nn : Bool) (sz : Nat) (els : List V) : V.nice (.isl p nn sz els) = true := rfl
theorem nice_own (sz : Nat) (els : List V) : V.nice (.own sz els) = true := rfl
theorem nice_agg (cs : List V) : V.nice (.agg cs) = ones cs := rfl
theorem nice_tup (vs : List V) : V.nice (.tup vs) = vs.all V.nice1 := rfl
theorem nice_fn (f : Fn) (a b : List V) : V.nice (.fn f a b) = true := rfl
theorem nice1_eq (v : V) : V.nice1 v = ones v.cells := rfl
theorem ones_nil : ones [] = true := rfl
theorem ones_int (k : IntKind) (n : Int) (r : List V) : ones (.lit (.int k n) :: r) = ones r := rfl
theorem ones_bool (b : Bool) (r : List V) : ones (.lit (.bool b) :: r) = ones r := rfl
theorem ones_str (s : _) (r : List V) : ones (.lit (.string s) :: r) = ones r := rfl
theorem ones_nilf (r : List V) : ones (.lit .nilFunc :: r) = ones r := rfl
theorem ones_snil (r : List V) : ones (.lit (.slice none 0 0) :: r) = ones r := rfl
theorem ones_isl (p nn : Bool) (sz : Nat) (els : List V) (r : List V) : ones (.isl p nn sz els :: r) = ones r := rfl
theorem ones_own (sz : Nat) (els : List V) (r : List V) : ones (.own sz els :: r) = ones r := rfl
theorem ones_sl (o : Nat) (r : List V) : ones (.sl o :: r) = ones r := rfl
theorem ones_ip (p : Bool) (row : List V) (off : Nat) (r : List V) : ones (.ip p row off :: r) = ones r := rfl
theorem ones_ptr (o i f : Nat) (r : List V) : ones (.ptr o i f :: r) = ones r := rfl
theorem ones_fn (f : Fn) (a b : List V) (r : List V) : ones (.fn f a b :: r) = ones r := rfl
attribute [go_sem] clQ_eq clR_ret clR_rdo perm_lit perm_own perm_isl perm_agg perm_tup perm_sl perm_ip perm_fn perm_ptr perms_nil perms_cons perms_eW perms_eI perms_eR perms_eWr perms_eE perms_oS nr_lit nr_own nr_isl nr_agg nr_sl nr_ip nr_ptr nr_fn nrs_nil nrs_cons nice_lit nice_isl nice_own nice_agg nice_tup nice_fn nice1_eq ones_nil ones_int ones_bool ones_str ones_nilf ones_snil ones_isl ones_own ones_sl ones_ip ones_ptr ones_fn
attribute [go_sem] Bool.false_eq_true Bool.true_and Bool.false_and Bool.and_true Bool.and_false Bool.not_true Bool.not_false Bool.or_true Bool.or_false Bool.true_or Bool.false_or and_true true_and and_self List.all_cons List.all_nil List.nodup_nil List.nodup_cons List.mem_cons List.not_mem_nil or_self not_false_eq_true or_false false_or
attribute [go_sem] opCallPure argsMode opBuild fillParts fillCells opNew opNewI opAlloc opLoad opStore opIndexAddr opIndex takeCells opBuildSlice opAppend source opClone clonePut opSlice opMakeSlice opConvert K.agg elemsOf depth V.isRef goInt

theorem fin_heap {bef : List (List Nat)} {rcs : List Rec} {x : Option Ans} {Q : V → Hp → Nat → Prop} (h : heapOk bef rcs = true) (hx : Fin x Q) : Fin (heapK bef rcs x) Q := by rw [heapK_of h]; exact hx
section
variable {R : Type}
def runD (C : Ctx) (P : FuncId → List V → Option V) (s : St) (q : Out → St → Option R) : IR → Option R
  | .region ops (some bef) => runDraw C.L C.T P 0 ops s [] fun s rcs => heapK bef rcs (q .normal s)
  | _ => none
def drawOk : IR → Bool
  | .region ops (some bef) => slotsOk bef 0 ops
  | _ => false
theorem ev_runD {C : Ctx} {O : Orc} {P : FuncId → List V → Option V} {k : Nat} {d : IR} (h : drawOk d = true) (s : St) (q : Out → St → Option R) : evC C O P k d s q = runD C P s q d := by
  cases d with
  | region ops b => cases b with
    | none => cases h
    | some bef => exact ev_draw C O P k s q h
  | _ => cases h
theorem runD_of (C : Ctx) (P : FuncId → List V → Option V) (s : St) (q : Out → St → Option R) (ops : List IOp) (bef : List (List Nat)) : runD C P s q (.region ops (some bef)) = runDraw C.L C.T P 0 ops s [] fun s rcs => heapK bef rcs (q .normal s) := rfl
@[congr] theorem runD_congr {C : Ctx} {P : FuncId → List V → Option V} {s : St} {q : Out → St → Option R} {d d' : IR} (e : d = d') : runD C P s q d = runD C P s q d' := by rw [e]
@[congr] theorem runDraw_congr {L : Lay} {T : Tbl} {P : FuncId → List V → Option V} {i : Nat} {ops : List IOp} {s s' : St} {rcs rcs' : List Rec} {k : St → List Rec → Option R} (e : s = s') (e' : rcs = rcs') : runDraw L T P i ops s rcs k = runDraw L T P i ops s' rcs' k := by rw [e, e']
end
theorem binA_eql (L : Lay) (t : TypeId) (a b : List V) : opBin L .eql t (.agg a) (.agg b) = match L t with
  | some ti => if ti.plain && a.length == ti.size then (eqCells a b).map fun r => .lit (.bool r) else none
  | none => none := by simp only [opBin]; cases L t <;> rfl
theorem binA_neq (L : Lay) (t : TypeId) (a b : List V) : opBin L .neq t (.agg a) (.agg b) = match L t with
  | some ti => if ti.plain && a.length == ti.size then (eqCells a b).map fun r => .lit (.bool (!r)) else none
  | none => none := by simp only [opBin]; cases L t <;> rfl
theorem eqc_nil : eqCells [] [] = some true := rfl
theorem eqc_int (k : IntKind) (a b : Int) (r s : List V) : eqCells (.lit (.int k a) :: r) (.lit (.int k b) :: s) = (eqCells r s).map fun y => decide (a = b) && y := by
  cases h : eqCells r s <;> simp [eqCells, cellEq, h]
attribute [go_sem] binA_eql binA_neq eqc_nil eqc_int Option.map_some beq_self_eq_true addRec

structure Dum {α : Sort _} (a : α) : Type where
section
variable (O : Orc) (h : Hp) (n i : Nat) (ro : List Nat) (rcs : List Rec) (Q : V → Hp → Nat → Prop)
def GP (v : Option V) (k : V → Option Ans) (Q : V → Hp → Nat → Prop) (_ : Dum k) : Prop := Fin (bindP v k) Q
def GM (m : AM Eff) (h : Hp) (n : Nat) (k : V → Hp → Nat → Option Ans) (Q : V → Hp → Nat → Prop) (_ : Dum k) : Prop := Fin (bindM m h n k) Q
def GR (m : AM Eff) (h : Hp) (n i : Nat) (ro : List Nat) (rcs : List Rec) (k : V → Hp → Nat → List Rec → Option Ans) (Q : V → Hp → Nat → Prop) (_ : Dum k) : Prop := Fin (bindR' m h n i ro rcs k) Q
def GI (x : Option (V × Hp × Nat)) (k : V → Hp → Nat → Option Ans) (Q : V → Hp → Nat → Prop) (_ : Dum k) : Prop := Fin (bindI x k) Q
def GC (b : Option Bool) (x y : Option Ans) (Q : V → Hp → Nat → Prop) (_ : Dum x) (_ : Dum y) : Prop := Fin (condK b x y) Q
def GS (O : Orc) (x : OpK) (g : Option Bool) (h : Hp) (n : Nat) (k : V → Hp → Nat → Option Ans) (Q : V → Hp → Nat → Prop) (_ : Dum k) : Prop := Fin (stepO O x g h n k) Q
def GD (x : OpK) (g : Option Bool) (h : Hp) (n i : Nat) (rcs : List Rec) (k : V → Hp → Nat → List Rec → Option Ans) (Q : V → Hp → Nat → Prop) (_ : Dum k) : Prop := Fin (stepD x g h n i rcs k) Q
def GE (C : Ctx) (O : Orc) (P : FuncId → List V → Option V) (k : Nat) (ir : IR) (s : St) (q : Out → St → Option Ans) (Q : V → Hp → Nat → Prop) (_ : Dum ir) (_ : Dum q) : Prop := Fin (evC C O P k ir s q) Q
def GL (thr : Nat) (live : List Nat) (f : St → (Out → St → Option Ans) → Option Ans) (q : Out → St → Option Ans) (k : Nat) (s : St) (Q : V → Hp → Nat → Prop) (_ : Dum f) (_ : Dum q) : Prop := Fin (evLoop thr live f q k s) Q
def GN (thr : Nat) (live : List Nat) (s : St) (k : St → Option Ans) (Q : V → Hp → Nat → Prop) (_ : Dum k) : Prop := Fin (normK thr live s k) Q

theorem gP (v : Option V) (k : V → Option Ans) : Fin (bindP v k) Q = GP v k Q ⟨⟩ := rfl
theorem gM (m : AM Eff) (k : V → Hp → Nat → Option Ans) : Fin (bindM m h n k) Q = GM m h n k Q ⟨⟩ := rfl
theorem gI (x : Option (V × Hp × Nat)) (k : V → Hp → Nat → Option Ans) : Fin (bindI x k) Q = GI x k Q ⟨⟩ := rfl
theorem gC (b : Option Bool) (x y : Option Ans) : Fin (condK b x y) Q = GC b x y Q ⟨⟩ ⟨⟩ := rfl
theorem gOps_nil (L : Lay) (T : Tbl) (P : FuncId → List V → Option V) (s : St) (k : St → Option Ans) : Fin (runOps L T O P [] s k) Q = Fin (k s) Q := rfl
theorem gOps (L : Lay) (T : Tbl) (P : FuncId → List V → Option V) (o : IOp) (r : List IOp) (tm : Nat → V) (k : St → Option Ans) :
    Fin (runOps L T O P (o :: r) ⟨tm, h, n⟩ k) Q = GS O (opK L T P (eV tm) n o.frz o.op) (wantV tm o.guard) h n (fun v h n => runOps L T O P r ⟨setT tm o.dst v, h, n⟩ k) Q ⟨⟩ := by rw [runOps_cons]; rfl
theorem gDraw_nil (L : Lay) (T : Tbl) (P : FuncId → List V → Option V) (s : St) (k : St → List Rec → Option Ans) : Fin (runDraw L T P i [] s rcs k) Q = Fin (k s rcs) Q := rfl
theorem gDraw (L : Lay) (T : Tbl) (P : FuncId → List V → Option V) (o : IOp) (r : List IOp) (tm : Nat → V) (k : St → List Rec → Option Ans) :
    Fin (runDraw L T P i (o :: r) ⟨tm, h, n⟩ rcs k) Q = GD (opK L T P (eV tm) n o.frz o.op) (wantV tm o.guard) h n i rcs (fun v h n rcs => runDraw L T P (i + 1) r ⟨setT tm o.dst v, h, n⟩ rcs k) Q ⟨⟩ := by rw [runDraw_cons]; rfl
theorem gHeap (bef : List (List Nat)) (x : Option Ans) : Fin (heapK bef rcs x) Q = (heapOk bef rcs = true ∧ Fin x Q) := by
  cases h : heapOk bef rcs <;> simp [heapK, h, Fin]
theorem gN (thr : Nat) (live : List Nat) (s : St) (k : St → Option Ans) : Fin (normK thr live s k) Q = GN thr live s k Q ⟨⟩ := rfl
theorem gL (thr : Nat) (live : List Nat) (f : St → (Out → St → Option Ans) → Option Ans) (q : Out → St → Option Ans) (k : Nat) (s : St) : Fin (evLoop thr live f q k s) Q = GL thr live f q k s Q ⟨⟩ ⟨⟩ := rfl
section
variable (C : Ctx) (P : FuncId → List V → Option V) (k : Nat) (s : St) (q : Out → St → Option Ans)
theorem gE_skip : Fin (evC C O P k .skip s q) Q = Fin (q .normal s) Q := rfl
theorem gE_label (l : Nat) : Fin (evC C O P k (.label l) s q) Q = Fin (q .normal s) Q := rfl
theorem gE_region (ops : List IOp) : Fin (evC C O P k (.region ops none) s q) Q = Fin (runOps C.L C.T O P ops s (q .normal)) Q := rfl
theorem gE_seq (a b : IR) : Fin (evC C O P k (.seq a b) s q) Q = Fin (evC C O P k a s (thenK (fun s => evC C O P k b s q) q)) Q := rfl
theorem gE_cond (c : Operand) (a b : IR) : Fin (evC C O P k (.cond c a b) s q) Q = GC (eV s.tm c).bool? (evC C O P k a s q) (evC C O P k b s q) Q ⟨⟩ ⟨⟩ := rfl
theorem gE_block (id : Nat) (b : IR) : Fin (evC C O P k (.block id b) s q) Q = Fin (evC C O P k b s (inBlockK id q)) Q := rfl
theorem gE_loop (live : List Nat) (b : IR) : Fin (evC C O P k (.loop live b) s q) Q = GL s.n live (fun s q => evC C O P k b s (restK live q)) q k (restr live s) Q ⟨⟩ ⟨⟩ := rfl
theorem gE_exit (id : Nat) (live : List Nat) : Fin (evC C O P k (.exit id live) s q) Q = Fin (q (.exit id) (restr live s)) Q := rfl
theorem gE_goto (l : Nat) : Fin (evC C O P k (.goto l) s q) Q = Fin (q (.goto l) s) Q := rfl
theorem gE_ret (live : List Nat) : Fin (evC C O P k (.ret live) s q) Q = Fin (q .ret (restr live s)) Q := rfl
theorem gE_draw {d : IR} (hd : drawOk d = true) : Fin (evC C O P k d s q) Q = Fin (runD C P s q d) Q := by rw [ev_runD hd]
/-- a drawn region, its text still a name -/
def GU (d : IR) (C : Ctx) (P : FuncId → List V → Option V) (s : St) (q : Out → St → Option Ans) (Q : V → Hp → Nat → Prop) (_ : Dum q) (_ : Dum s) : Prop := Fin (runD C P s q d) Q
theorem gE_U {d : IR} (hd : drawOk d = true) : Fin (evC C O P k d s q) Q = GU d C P s q Q ⟨⟩ ⟨⟩ := by rw [ev_runD hd]; rfl
theorem gU (ops : List IOp) (bef : List (List Nat)) (u : Dum q) (w : Dum s) : GU (.region ops (some bef)) C P s q Q u w = Fin (runDraw C.L C.T P 0 ops s [] fun s rcs => heapK bef rcs (q .normal s)) Q := rfl
theorem gD_of (ops : List IOp) (bef : List (List Nat)) : Fin (runD C P s q (.region ops (some bef))) Q = Fin (runDraw C.L C.T P 0 ops s [] fun s rcs => heapK bef rcs (q .normal s)) Q := rfl
end
section
variable (k : St → Option Ans) (q : Out → St → Option Ans) (s : St) (live : List Nat) (kj : Nat → St → Option Ans)
theorem g_then_normal : Fin (thenK k q .normal s) Q = Fin (k s) Q := rfl
theorem g_then_exit : Fin (thenK k q (.exit i) s) Q = Fin (q (.exit i) s) Q := rfl
theorem g_then_goto : Fin (thenK k q (.goto i) s) Q = Fin (q (.goto i) s) Q := rfl
theorem g_then_ret : Fin (thenK k q .ret s) Q = Fin (q .ret s) Q := rfl
theorem g_blk_normal : Fin (inBlockK i q .normal s) Q = Fin (q .normal s) Q := rfl
theorem g_blk_goto (j : Nat) : Fin (inBlockK i q (.goto j) s) Q = Fin (q (.goto j) s) Q := rfl
theorem g_blk_ret : Fin (inBlockK i q .ret s) Q = Fin (q .ret s) Q := rfl
theorem g_blk_eq : Fin (inBlockK i q (.exit i) s) Q = Fin (q .normal s) Q := by rw [blk_exit, if_pos rfl]
theorem g_blk_ne {j : Nat} (h : j ≠ i) : Fin (inBlockK i q (.exit j) s) Q = Fin (q (.exit j) s) Q := by rw [blk_exit, if_neg h]
theorem g_rest_normal : Fin (restK live q .normal s) Q = Fin (q .normal (restr live s)) Q := rfl
theorem g_rest_exit : Fin (restK live q (.exit i) s) Q = Fin (q (.exit i) s) Q := rfl
theorem g_rest_goto : Fin (restK live q (.goto i) s) Q = Fin (q (.goto i) s) Q := rfl
theorem g_rest_ret : Fin (restK live q .ret s) Q = Fin (q .ret s) Q := rfl
theorem g_jump_normal : Fin (jumpK kj q .normal s) Q = Fin (q .normal s) Q := rfl
theorem g_jump_exit : Fin (jumpK kj q (.exit i) s) Q = Fin (q (.exit i) s) Q := rfl
theorem g_jump_goto : Fin (jumpK kj q (.goto i) s) Q = Fin (kj i s) Q := rfl
theorem g_jump_ret : Fin (jumpK kj q .ret s) Q = Fin (q .ret s) Q := rfl
end
theorem g_end_normal (L : Lay) (rs : List ResultVar) (ts : List TypeId) (tm : Nat → V) : Fin (endR L rs ts .normal ⟨tm, h, n⟩) Q = Fin (resultsK L tm rs ts h n fun vs hp n => some (oneOrTup vs, hp, n)) Q := rfl
theorem g_end_ret (L : Lay) (rs : List ResultVar) (ts : List TypeId) (tm : Nat → V) : Fin (endR L rs ts .ret ⟨tm, h, n⟩) Q = Fin (resultsK L tm rs ts h n fun vs hp n => some (oneOrTup vs, hp, n)) Q := rfl
section
variable (L : Lay) (tm : Nat → V) (t : Tmp) (a : Tmp) (y ty : TypeId) (r : List ResultVar) (ts : List TypeId) (k : List V → Hp → Nat → Option Ans)
theorem g_res_nil : Fin (resultsK L tm [] ts h n k) Q = Fin (k [] h n) Q := rfl
theorem g_res_tmp : Fin (resultsK L tm (.tmp t :: r) (y :: ts) h n k) Q = Fin (resultsK L tm r ts h n fun vs h n => k (fixNil L y (tm t) :: vs) h n) Q := rfl
theorem g_res_cell : Fin (resultsK L tm (.cell a ty :: r) (y :: ts) h n k) Q = GM (opLoad L n ty (tm a)) h n (fun v h n => resultsK L tm r ts h n fun vs h n => k (v :: vs) h n) Q ⟨⟩ := rfl
end
/-! on -/
theorem x_P (v : V) (k : V → Option Ans) (u : Dum k) : GP (some v) k Q u = Fin (k v) Q := rfl
theorem x_M (x : Eff) (k : V → Hp → Nat → Option Ans) (u : Dum k) : GM (.ret x) h n k Q u = Fin (k x.v (applyUpd h x.upd) (n + x.new)) Q := rfl
theorem x_Mr (o : Nat) (f : Option Obj → AM Eff) (k : V → Hp → Nat → Option Ans) (u : Dum k) : GM (.rdo o f) h n k Q u = GM (f (h o)) h n k Q u := rfl
theorem x_R (x : Eff) (k : V → Hp → Nat → List Rec → Option Ans) (u : Dum k) : GR (.ret x) h n i ro rcs k Q u = Fin (k x.v (applyUpd h x.upd) (n + x.new) (addRec i ro (x.upd.map (·.1)) rcs)) Q := by
  show Fin (bindR' _ _ _ _ _ _ _) Q = _; rw [bindR'_ret]
theorem x_Rr (o : Nat) (f : Option Obj → AM Eff) (k : V → Hp → Nat → List Rec → Option Ans) (u : Dum k) : GR (.rdo o f) h n i ro rcs k Q u = GR (f (h o)) h n i (ro ++ [o]) rcs k Q u := by
  show Fin (bindR' _ _ _ _ _ _ _) Q = _; rw [bindR'_rdo]; rfl
theorem x_I (v : V) (h' : Hp) (n' : Nat) (k : V → Hp → Nat → Option Ans) (u : Dum k) : GI (some (v, h', n')) k Q u = Fin (k v h' n') Q := rfl
theorem x_Ct (x y : Option Ans) (u : Dum x) (w : Dum y) : GC (some true) x y Q u w = Fin x Q := rfl
theorem x_Cf (x y : Option Ans) (u : Dum x) (w : Dum y) : GC (some false) x y Q u w = Fin y Q := rfl
theorem x_C (b : Bool) (x y : Option Ans) (u : Dum x) (w : Dum y) : GC (some b) x y Q u w = ((b = true → Fin x Q) ∧ (b = false → Fin y Q)) := by
  cases b <;> simp [GC, condK]
theorem x_Sp (v : Option V) (k : V → Hp → Nat → Option Ans) (u : Dum k) : GS O (.p v) (some true) h n k Q u = GP v (fun v => k v h n) Q ⟨⟩ := rfl
theorem x_Sm (m : AM Eff) (k : V → Hp → Nat → Option Ans) (u : Dum k) : GS O (.m m) (some true) h n k Q u = GM m h n k Q u := rfl
theorem x_Si (f : FuncId) (xs : List V) (k : V → Hp → Nat → Option Ans) (u : Dum k) : GS O (.i f xs) (some true) h n k Q u = GI (O f xs h n) k Q u := rfl
theorem x_Sn (x : OpK) (k : V → Hp → Nat → Option Ans) (u : Dum k) : GS O x (some false) h n k Q u = Fin (k undefV h n) Q := by
  show Fin (stepO _ _ _ _ _ _) Q = _; rw [stepO_not]
theorem x_Dp (v : Option V) (k : V → Hp → Nat → List Rec → Option Ans) (u : Dum k) : GD (.p v) (some true) h n i rcs k Q u = GP v (fun v => k v h n rcs) Q ⟨⟩ := rfl
theorem x_Dm (m : AM Eff) (k : V → Hp → Nat → List Rec → Option Ans) (u : Dum k) : GD (.m m) (some true) h n i rcs k Q u = GR m h n i [] rcs k Q u := by show Fin (bindR _ _ _ _ _ _) Q = Fin (bindR' _ _ _ _ _ _ _) Q; rw [bindR_to]; rfl
theorem x_Dpn (v : Option V) (k : V → Hp → Nat → List Rec → Option Ans) (u : Dum k) : GD (.p v) (some false) h n i rcs k Q u = Fin (k undefV h n rcs) Q := rfl
theorem x_Dmn (m : AM Eff) (k : V → Hp → Nat → List Rec → Option Ans) (u : Dum k) : GD (.m m) (some false) h n i rcs k Q u = Fin (k undefV h n rcs) Q := by
  show Fin (stepD _ _ _ _ _ _ _) Q = _; rw [stepD_notm]
theorem scr_lit (thr : Nat) (v : Value) : V.scrub thr (.lit v) = .lit v := by simp [V.scrub]
theorem scr_isl (thr : Nat) (p nn : Bool) (sz : Nat) (els : List V) : V.scrub thr (.isl p nn sz els) = .isl p nn sz els := by simp [V.scrub]
theorem scr_ip (thr : Nat) (p : Bool) (row : List V) (off : Nat) : V.scrub thr (.ip p row off) = .ip p row off := by simp [V.scrub]
theorem scr_agg (thr : Nat) (cs : List V) : V.scrub thr (.agg cs) = .agg (scrubs thr cs) := by simp [V.scrub]
theorem scr_fn (thr : Nat) (f : Fn) (a b : List V) : V.scrub thr (.fn f a b) = .fn f (scrubs thr a) (scrubs thr b) := by simp [V.scrub]
theorem scr_ptr (thr o i f : Nat) : V.scrub thr (.ptr o i f) = if o < thr then .ptr o i f else .dead := by simp [V.scrub]
theorem scr_sl (thr o : Nat) : V.scrub thr (.sl o) = if o < thr then .sl o else .dead := by simp [V.scrub]
theorem scrs_nil (thr : Nat) : scrubs thr [] = [] := by simp [scrubs]
theorem scrs_cons (thr : Nat) (v : V) (r : List V) : scrubs thr (v :: r) = v.scrub thr :: scrubs thr r := by simp [scrubs]
end
theorem hok_nil (bef : List (List Nat)) : heapOk bef [] = true := rfl
theorem hok_cons (bef : List (List Nat)) (a : Rec) (r : List Rec) : heapOk bef (a :: r) = (r.all (heapOk1 bef a) && heapOk bef r) := rfl
theorem hok1 (bef : List (List Nat)) (a b : Rec) : heapOk1 bef a b = (!(meets a.wo b.wo || meets a.wo b.ro || meets a.ro b.wo) || before bef b.i a.i) := rfl
theorem meets_nil (b : List Nat) : meets [] b = false := rfl
theorem meets_nil' (a : List Nat) : meets a [] = false := by simp [meets]
theorem meets_cons (x : Nat) (a b : List Nat) : meets (x :: a) b = (b.contains x || meets a b) := rfl
theorem before_eq (bef : List (List Nat)) (i j : Nat) : before bef i j = reachF bef i 8 j := (rfl)
theorem reach_s (bef : List (List Nat)) (i f j : Nat) : reachF bef i (f + 1) j = ((bef.getD j []).contains i || (bef.getD j []).any fun k => reachF bef i f k) := (rfl)
attribute [go_sem] reach_s List.any_cons List.any_nil
attribute [go_sem ↓] gP gM gI gC gOps_nil gOps gDraw_nil gDraw gHeap gN gL gE_skip gE_label gE_region gE_seq gE_cond gE_block gE_loop gE_exit gE_goto gE_ret gD_of g_then_normal g_then_exit g_then_goto g_then_ret g_blk_normal g_blk_goto g_blk_ret g_blk_eq g_blk_ne g_rest_normal g_rest_exit g_rest_goto g_rest_ret g_jump_normal g_jump_exit g_jump_goto g_jump_ret g_res_nil g_res_tmp g_res_cell fin_some x_P x_M x_Mr x_R x_Rr x_I x_Ct x_Cf x_Sp x_Sm x_Si x_Sn x_Dp x_Dm x_Dpn x_Dmn
attribute [go_sem] gP gM gI gC gOps_nil gOps gDraw_nil gDraw gHeap gN gL g_end_normal g_end_ret g_then_normal g_then_exit g_then_goto g_then_ret g_rest_normal g_blk_normal x_P x_M x_Mr x_R x_Rr x_I x_Ct x_Cf x_Sp x_Sm x_Si x_Sn x_Dp x_Dm x_Dpn x_Dmn scr_lit scr_isl scr_ip scr_agg scr_fn scr_ptr scr_sl scrs_nil scrs_cons
attribute [go_sem low] x_C
attribute [go_sem] gU
attribute [go_sem ↓] gU
attribute [go_sem] hok_nil hok_cons hok1 meets_nil meets_nil' meets_cons before_eq List.contains_cons List.getD_cons_zero List.getD_cons_succ List.getD_nil List.elem_nil ne_eq
theorem not_tt (b : Bool) : ((!b) = true) = (b = false) := by cases b <;> simp
theorem not_ff (b : Bool) : ((!b) = false) = (b = true) := by cases b <;> simp
attribute [go_sem] not_tt not_ff

attribute [go_sem] eW eI eR eWr eE eSl eS oS
theorem eta_W (w : TWord) : (⟨w.val, w.ver, w.lock⟩ : TWord) = w := (rfl)
theorem eta_I (w : TInst) : (⟨w.code, w.a, w.b, w.c⟩ : TInst) = w := (rfl)
theorem eta_R (w : TRead) : (⟨w.level, w.index, w.ver⟩ : TRead) = w := (rfl)
theorem eta_Wr (w : TWrite) : (⟨w.level, w.index, w.val⟩ : TWrite) = w := (rfl)
theorem eta_E (w : TEvent) : (⟨w.id, w.label, w.kind, w.val⟩ : TEvent) = w := (rfl)
theorem eta_4 {α : Type} (w : A4 α) : (⟨w.a0, w.a1, w.a2, w.a3⟩ : A4 α) = w := (rfl)
theorem eta_M (w : TMach) : (⟨w.words, w.clocks, w.ceil, w.sess, w.trace⟩ : TMach) = w := (rfl)
theorem eta_S (s : TSess) : (⟨s.id, s.label, s.clear, s.prog, s.step, s.pc, s.regs, s.reads, s.writes, s.at_, s.stamp, s.tries, s.result, s.told⟩ : TSess) = s := (rfl)
attribute [go_sem] eta_W eta_I eta_R eta_Wr eta_E eta_4 eta_M eta_S
theorem gLs (thr : Nat) (live : List Nat) (f : St → (Out → St → Option Ans) → Option Ans) (q : Out → St → Option Ans) (k : Nat) (s : St) (Q : V → Hp → Nat → Prop) (u : Dum f) (w : Dum q) :
    GL thr live f q (k + 1) s Q u w = GN thr live s (fun s => f s fun o s => thenK (evLoop thr live f q k) q o s) Q ⟨⟩ := (rfl)
theorem un_c {b b' : IR} (e : b = b') (C : Ctx) (O : Orc) (P : FuncId → List V → Option V) (k : Nat) (s : St) (q : Out → St → Option Ans) (Q : V → Hp → Nat → Prop) : Fin (evC C O P k b s q) Q = Fin (evC C O P k b' s q) Q := by rw [e]
abbrev BB : Nat := 140737488355328
attribute [go_sem] decide_true decide_false List.getElem?_map Int.toNat_natCast
theorem wl0 : IntKind.wrap .i64 0 = 0 := by decide
theorem wl1 : IntKind.wrap .i64 1 = 1 := by decide
theorem wl2 : IntKind.wrap .i64 2 = 2 := by decide
theorem wl3 : IntKind.wrap .i64 3 = 3 := by decide
theorem wl4 : IntKind.wrap .i64 4 = 4 := by decide
theorem wl5 : IntKind.wrap .i64 5 = 5 := by decide
attribute [go_sem] wl0 wl1 wl2 wl3 wl4 wl5
theorem call_val (L : Lay) (T : Tbl) (P : FuncId → List V → Option V) (n : Nat) (z : Bool) : opCall T P n z undefV [] = .p none := (rfl)
theorem minI (k l : IntKind) (a b : Int) : minInt [.lit (.int k a), .lit (.int l b)] = some (.lit (.int k (if b < a then b else a))) := (rfl)
theorem maxI (k l : IntKind) (a b : Int) : maxInt [.lit (.int k a), .lit (.int l b)] = some (.lit (.int k (if a < b then b else a))) := (rfl)
attribute [go_sem] minI maxI
theorem cast4 : ((4 : Nat) : Int) = 4 := (rfl)
theorem cast0 : ((0 : Nat) : Int) = 0 := (rfl)
theorem cast1 : ((1 : Nat) : Int) = 1 := (rfl)
theorem cast2 : ((2 : Nat) : Int) = 2 := (rfl)
theorem cast3 : ((3 : Nat) : Int) = 3 := (rfl)
attribute [go_sem] cast4 cast0 cast1 cast2 cast3

/-! what is done under a condition, without parting the ways -/
def NormB (c : Bool) : Prop := c = true
def NormF (c : Bool) : Prop := c = false
theorem nb_and (a b : Bool) : NormB (a && b) = (NormB a ∧ NormB b) := by simp [NormB]
theorem nb_not (a : Bool) : NormB (!a) = NormF a := by simp [NormB, NormF]
theorem nb_at (a : Bool) : NormB a = (a = true) := (rfl)
theorem nf_or (a b : Bool) : NormF (a || b) = (NormF a ∧ NormF b) := by simp [NormF]
theorem nf_not (a : Bool) : NormF (!a) = NormB a := by simp [NormB, NormF]
theorem nf_at (a : Bool) : NormF a = (a = false) := (rfl)
attribute [go_sem] nb_and nb_not nf_or nf_not
attribute [go_sem low] nb_at nf_at
def GX (O : Orc) (c : Bool) (x : OpK) (h : Hp) (n : Nat) (k : V → Hp → Nat → Option Ans) (Q : V → Hp → Nat → Prop) (_ : Dum k) : Prop := Fin (stepO O x (some c) h n k) Q
def GYp (c : Bool) (v : Option V) (h : Hp) (n : Nat) (rcs : List Rec) (k : V → Hp → Nat → List Rec → Option Ans) (Q : V → Hp → Nat → Prop) (_ : Dum k) : Prop :=
  match c with
  | true => Fin (bindP v fun v => k v h n rcs) Q
  | false => Fin (k undefV h n rcs) Q
def GYm (c : Bool) (m : AM Eff) (h : Hp) (n i : Nat) (ro : List Nat) (rcs : List Rec) (k : V → Hp → Nat → List Rec → Option Ans) (Q : V → Hp → Nat → Prop) (_ : Dum k) : Prop :=
  match c with
  | true => Fin (bindR' m h n i ro rcs k) Q
  | false => Fin (k undefV h n rcs) Q
section
variable (O : Orc) (c : Bool) (h : Hp) (n i : Nat) (ro : List Nat) (rcs : List Rec) (Q : V → Hp → Nat → Prop)
@[congr] theorem GX_congr {g : Prop} {x x' : OpK} {k : V → Hp → Nat → Option Ans} {u : Dum k} (hg : NormB c = g) (hx : g → x = x') : GX O c x h n k Q u = GX O c x' h n k Q u := by
  cases c with
  | true => rw [hx (hg ▸ rfl)]
  | false => show Fin (stepO _ _ _ _ _ _) _ = Fin (stepO _ _ _ _ _ _) _; rw [stepO_not, stepO_not]
theorem x_S (x : OpK) (k : V → Hp → Nat → Option Ans) (u : Dum k) : GS O x (some c) h n k Q u = GX O c x h n k Q u := (rfl)
theorem x_Xp (v : V) (k : V → Hp → Nat → Option Ans) (u : Dum k) : GX O c (.p (some v)) h n k Q u = Fin (k (if c = true then v else undefV) h n) Q := by
  cases c with
  | true => rfl
  | false => show Fin (stepO _ _ _ _ _ _) _ = _; rw [stepO_not]; rfl
theorem x_Xm (v : V) (k : V → Hp → Nat → Option Ans) (u : Dum k) : GX O c (.m (.ret ⟨v, [], 0⟩)) h n k Q u = Fin (k (if c = true then v else undefV) h n) Q := by
  cases c with
  | true => rfl
  | false => show Fin (stepO _ _ _ _ _ _) _ = _; rw [stepO_not]; rfl
theorem x_Xr (o : Nat) (f : Option Obj → AM Eff) (k : V → Hp → Nat → Option Ans) (u : Dum k) : GX O c (.m (.rdo o f)) h n k Q u = GX O c (.m (f (h o))) h n k Q u := by
  cases c with
  | true => rfl
  | false => show Fin (stepO _ _ _ _ _ _) _ = Fin (stepO _ _ _ _ _ _) _; rw [stepO_not, stepO_not]
theorem x_Xu (v : V) (o : Nat × Option Obj) (up : List (Nat × Option Obj)) (nw : Nat) (k : V → Hp → Nat → Option Ans) (u : Dum k) : GX O c (.m (.ret ⟨v, o :: up, nw⟩)) h n k Q u =
    ((c = true → Fin (k v (applyUpd h (o :: up)) (n + nw)) Q) ∧ (c = false → Fin (k undefV h n) Q)) := by
  cases c with
  | true => simp [GX, stepO, guardM, bindM, AM.run]
  | false => simp only [Bool.false_eq_true, false_imp_iff, true_and, forall_const]; show Fin (stepO _ _ _ _ _ _) _ = _; rw [stepO_not]
theorem x_Xi (f : FuncId) (xs : List V) (k : V → Hp → Nat → Option Ans) (u : Dum k) : GX O c (.i f xs) h n k Q u = ((c = true → GI (O f xs h n) k Q u) ∧ (c = false → Fin (k undefV h n) Q)) := by
  cases c with
  | true => simp [GX, stepO, guardI, GI]
  | false => simp only [Bool.false_eq_true, false_imp_iff, true_and, forall_const]; show Fin (stepO _ _ _ _ _ _) _ = _; rw [stepO_not]
@[congr] theorem GYp_congr {g : Prop} {v v' : Option V} {k : V → Hp → Nat → List Rec → Option Ans} {u : Dum k} (hg : NormB c = g) (hx : g → v = v') : GYp c v h n rcs k Q u = GYp c v' h n rcs k Q u := by
  cases c with
  | true => rw [hx (hg ▸ rfl)]
  | false => rfl
@[congr] theorem GYm_congr {g : Prop} {v v' : AM Eff} {k : V → Hp → Nat → List Rec → Option Ans} {u : Dum k} (hg : NormB c = g) (hx : g → v = v') : GYm c v h n i ro rcs k Q u = GYm c v' h n i ro rcs k Q u := by
  cases c with
  | true => rw [hx (hg ▸ rfl)]
  | false => rfl
theorem x_Yp0 (v : Option V) (k : V → Hp → Nat → List Rec → Option Ans) (u : Dum k) : GD (.p v) (some c) h n i rcs k Q u = GYp c v h n rcs k Q u := by cases c <;> rfl
theorem x_Ym0 (m : AM Eff) (k : V → Hp → Nat → List Rec → Option Ans) (u : Dum k) : GD (.m m) (some c) h n i rcs k Q u = GYm c m h n i [] rcs k Q u := by
  cases c with
  | true => rw [x_Dm]; rfl
  | false => rw [x_Dmn]; rfl
theorem x_Yp (v : V) (k : V → Hp → Nat → List Rec → Option Ans) (u : Dum k) : GYp c (some v) h n rcs k Q u = Fin (k (if c = true then v else undefV) h n rcs) Q := by cases c <;> rfl
theorem x_Ym (v : V) (k : V → Hp → Nat → List Rec → Option Ans) (u : Dum k) : GYm c (.ret ⟨v, [], 0⟩) h n i [] rcs k Q u = Fin (k (if c = true then v else undefV) h n rcs) Q := by
  cases c with
  | true => show Fin (bindR' _ _ _ _ _ _ _) Q = _; rw [bindR'_ret]; rfl
  | false => rfl
theorem x_Ymr (o : Nat) (f : Option Obj → AM Eff) (k : V → Hp → Nat → List Rec → Option Ans) (u : Dum k) : GYm c (.rdo o f) h n i ro rcs k Q u = GYm c (f (h o)) h n i (ro ++ [o]) rcs k Q u := by
  cases c with
  | true => show Fin (bindR' _ _ _ _ _ _ _) Q = Fin (bindR' _ _ _ _ _ _ _) Q; rw [bindR'_rdo]
  | false => rfl
theorem x_Yms (x : Eff) (k : V → Hp → Nat → List Rec → Option Ans) (u : Dum k) : GYm c (.ret x) h n i ro rcs k Q u = ((c = true → Fin (k x.v (applyUpd h x.upd) (n + x.new) (addRec i ro (x.upd.map (·.1)) rcs)) Q) ∧ (c = false → Fin (k undefV h n rcs) Q)) := by
  cases c with
  | true => simp only [forall_const, Bool.true_eq_false, false_imp_iff, and_true]; show Fin (bindR' _ _ _ _ _ _ _) Q = _; rw [bindR'_ret]
  | false => simp [GYm]
attribute [go_sem] x_Yp x_Ym x_Ymr
attribute [go_sem low] x_Yms x_Yp0 x_Ym0
end
/-- what is picked -/
theorem pick_and (c b : Bool) : (if c = true then (if c = true then bV b else undefV) else bV false) = bV (c && b) := by cases c <;> rfl
theorem pick_and' (c b : Bool) : (if c = true then bV b else bV false) = bV (c && b) := by cases c <;> rfl
theorem pick_or (c b : Bool) : (if c = true then bV true else (if c = false then bV b else undefV)) = bV (c || b) := by cases c <;> rfl
theorem pick_or2 (c b : Bool) : (if c = true then bV true else (if (!c) = true then bV b else undefV)) = bV (c || b) := by cases c <;> rfl
theorem pick_or' (c b : Bool) : (if c = true then bV true else bV b) = bV (c || b) := by cases c <;> rfl
theorem wantB_ifT (c b : Bool) : wantB (if c = true then bV b else undefV) true = some (c && b) := by cases c <;> simp [wantB_true, wantB_undef]
theorem wantB_ifTf (c b : Bool) : wantB (if c = true then bV b else undefV) false = some (c && !b) := by cases c <;> simp [wantB_false, wantB_undef]
theorem wantB_ifF (c b : Bool) : wantB (if c = false then bV b else undefV) true = some (!c && b) := by cases c <;> simp [wantB_true, wantB_undef]
theorem wantB_ifFf (c b : Bool) : wantB (if c = false then bV b else undefV) false = some (!c && !b) := by cases c <;> simp [wantB_false, wantB_undef]
attribute [go_sem] pick_and pick_and' pick_or pick_or2 pick_or' wantB_ifT wantB_ifTf wantB_ifF wantB_ifFf x_Xp x_Xm x_Xr x_Xu x_Xi
attribute [go_sem low] x_S
theorem pick_n1 (c b : Bool) : (if c = false then bV true else bV b) = bV (!c || b) := by cases c <;> rfl
theorem pick_n2 (c b : Bool) : (if c = false then bV true else (if c = true then bV b else undefV)) = bV (!c || b) := by cases c <;> rfl
theorem pick_n3 (c b : Bool) : (if c = false then bV b else bV false) = bV (!c && b) := by cases c <;> rfl
theorem pick_n4 (c b : Bool) : (if c = false then (if c = false then bV b else undefV) else bV false) = bV (!c && b) := by cases c <;> rfl
attribute [go_sem] pick_n1 pick_n2 pick_n3 pick_n4
theorem bool_nf {x y : Bool} (h : (x && !y) = false) : (!x || y) = true := by cases x <;> cases y <;> simp_all
theorem bool_nt {x y : Bool} (h : (x && !y) = true) : (!x || y) = false := by cases x <;> cases y <;> simp_all
theorem fix_fn (L : Lay) (t : TypeId) (f : Fn) (a b : List V) : fixNil L t (.fn f a b) = .fn f a b := by simp [fixNil, V.isNil]
theorem cl_fn (d : Nat) (f : Fn) (a b : List V) : close 0 (d + 1) (.fn f a b) = if perms a && perms b then .ret (.fn f a b, []) else .ret (.dead, []) := (rfl)
attribute [go_sem] fix_fn cl_fn

def IsQ (r : V × Hp × Nat) (v : V) (h : Hp) (n : Nat) : Prop := (v, h, n) = r
theorem isQ_eq (r : V × Hp × Nat) (v : V) (h : Hp) (n : Nat) : IsQ r v h n = ((v, h, n) = r) := (rfl)
attribute [go_sem] isQ_eq
theorem inl_of {C : Ctx} {j : Nat} {g : FuncId} {xs : List V} {r : V × Hp × Nat} {hp : Hp} {n : Nat} {nt : Nat} {rs : List ResultVar} {ts : List TypeId} {b : IR} {ow : List Bool} {inl : Bool} {cl : Option (Nat × Nat)} (hd : C.T g = some ⟨nt, rs, ts, b, ow, inl, cl⟩) (k : Nat)
    (h : Fin (evC C (Lv C j) (pureOf (Lv C j)) k b ⟨startT xs, hp, n⟩ (endR C.L rs ts)) (IsQ r)) : Lv C (j + 1) g xs hp n = some r := by
  obtain ⟨v, h', n', h1, h2⟩ := h
  refine lv_of (k := k) ?_
  rw [evBody_of hd, ← show (v, h', n') = r from h2, ← h1]; rfl
/-- heaps with their objects in order -/
def pO (h : Hp) (o : Nat) (x : Option Obj) : Hp := putO h o x
theorem pO_if (h : Hp) (d : Nat) (v : Option Obj) (i : Nat) : pO h d v i = if i = d then v else h i := putO_if h d v i
theorem putO_e (i : Nat) (x : Option Obj) : putO emptyHp i x = pO emptyHp i x := (rfl)
theorem putO_eq (h : Hp) (o : Nat) (x y : Option Obj) : putO (pO h o x) o y = pO h o y := by
  funext i; simp only [putO_if, pO_if]; split <;> rfl
theorem putO_lt (h : Hp) {i j : Nat} (x y : Option Obj) (hij : i < j) : putO (pO h j y) i x = pO (putO h i x) j y := by
  funext k; simp only [putO_if, pO_if]
  split
  · split
    · omega
    · rfl
  · rfl
theorem putO_gt (h : Hp) {i j : Nat} (x y : Option Obj) (hij : j < i) : putO (pO h j y) i x = pO (pO h j y) i x := (rfl)
attribute [go_sem] pO_if putO_e putO_eq putO_lt putO_gt
/-! what a loop's head keeps -/
def GW' (x : Option (Hp × List Nat)) (ks : List Nat) (nk : Nat) (vs : List V) (thr : Nat) (live : List Nat) (h : Hp) (k : St → Option Ans) (Q : V → Hp → Nat → Prop) (_ : Dum k) : Prop :=
  match x with
  | some (hp', ks') => (ks ++ ks').Nodup ∧ (ks ++ ks').all (fun o => decide (thr ≤ o)) = true ∧ Fin (k ⟨ofLive live (renL thr h vs thr), hp', thr + nk⟩) Q
  | none => False
def GW (kl ks : List Nat) (hp : Hp) (vs : List V) (thr : Nat) (live : List Nat) (h : Hp) (k : St → Option Ans) (Q : V → Hp → Nat → Prop) (u : Dum k) : Prop :=
  GW' (closeKs thr h kl thr hp) ks kl.length vs thr live h k Q u
def GV (vs : List V) (x : Option (Hp × List Nat)) (thr : Nat) (live : List Nat) (h : Hp) (k : St → Option Ans) (Q : V → Hp → Nat → Prop) (u : Dum k) : Prop :=
  match x with
  | some (hp, ks) => GW (keepL thr h vs) ks hp vs thr live h k Q u
  | none => False
theorem x_N (thr : Nat) (live : List Nat) (tm : Nat → V) (h : Hp) (n : Nat) (k : St → Option Ans) (Q : V → Hp → Nat → Prop) (u : Dum k) : GN thr live ⟨tm, h, n⟩ k Q u = GV (live.map tm) (closeObjs thr h thr) thr live h k Q u := by
  show Fin (normK thr live ⟨tm, h, n⟩ k) Q = _
  simp only [normK, norm, normV]
  cases hc : closeObjs thr h thr with
  | none => simp [GV, Fin]
  | some x =>
    obtain ⟨hp, ks⟩ := x
    simp only [GV, GW]
    cases hc' : closeKs thr h (keepL thr h (live.map tm)) thr hp with
    | none => simp [GW', Fin]
    | some x =>
      obtain ⟨hp', ks'⟩ := x
      simp only [GW']
      by_cases hk : (ks ++ ks').Nodup ∧ (ks ++ ks').all (fun o => decide (thr ≤ o)) = true
      · simp only [if_pos hk]
        simp only [hk.1, hk.2, true_and]
      · simp only [hk, if_false]
        simp only [← and_assoc, hk, false_and, eq_iff_iff, iff_false]
        rintro ⟨v, h, n, e, _⟩; cases e
theorem x_V (hp : Hp) (ks : List Nat) (vs : List V) (thr : Nat) (live : List Nat) (h : Hp) (k : St → Option Ans) (Q : V → Hp → Nat → Prop) (u : Dum k) : GV vs (some (hp, ks)) thr live h k Q u = GW (keepL thr h vs) ks hp vs thr live h k Q u := (rfl)
theorem x_W0 (ks : List Nat) (hp : Hp) (vs : List V) (thr : Nat) (live : List Nat) (h : Hp) (k : St → Option Ans) (Q : V → Hp → Nat → Prop) (u : Dum k) : GW [] ks hp vs thr live h k Q u = (ks.Nodup ∧ ks.all (fun o => decide (thr ≤ o)) = true ∧ Fin (k ⟨ofLive live (renL thr h vs thr), hp, thr⟩) Q) := by
  show GW' (some (hp, [])) ks 0 vs thr live h k Q u = _
  simp only [GW', List.append_nil, Nat.add_zero]
theorem x_W1 (o : Nat) (r : List Nat) (ks : List Nat) (hp : Hp) (vs : List V) (thr : Nat) (live : List Nat) (h : Hp) (k : St → Option Ans) (Q : V → Hp → Nat → Prop) (u : Dum k) : GW (o :: r) ks hp vs thr live h k Q u = GW' (closeKs thr h (o :: r) thr hp) ks (o :: r).length vs thr live h k Q u := (rfl)
theorem x_W2 (hp' : Hp) (ks' ks : List Nat) (nk : Nat) (vs : List V) (thr : Nat) (live : List Nat) (h : Hp) (k : St → Option Ans) (Q : V → Hp → Nat → Prop) (u : Dum k) : GW' (some (hp', ks')) ks nk vs thr live h k Q u = ((ks ++ ks').Nodup ∧ (ks ++ ks').all (fun o => decide (thr ≤ o)) = true ∧ Fin (k ⟨ofLive live (renL thr h vs thr), hp', thr + nk⟩) Q) := (rfl)
theorem ck_nil (thr : Nat) (h : Hp) (m : Nat) (hp : Hp) : closeKs thr h [] m hp = some (hp, []) := (rfl)
def ckT (o : Nat) (thr : Nat) (h : Hp) (r : List Nat) (m : Nat) (hp : Hp) (x : Option (Option Obj × List Nat)) : Option (Hp × List Nat) := ckS o (fun y => closeKs thr h r (m + 1) (putO hp m y)) x
theorem ck_cons (thr : Nat) (h : Hp) (o : Nat) (r : List Nat) (m : Nat) (hp : Hp) : closeKs thr h (o :: r) m hp = ckT o thr h r m hp (closeObj thr h (h o)) := (rfl)
theorem ck_T (o thr : Nat) (h : Hp) (r : List Nat) (m : Nat) (hp : Hp) (y : Option Obj) (ls : List Nat) : ckT o thr h r m hp (some (y, ls)) = ckB o ls (closeKs thr h r (m + 1) (putO hp m y)) := (rfl)
theorem ck_B (o : Nat) (ls : List Nat) (hp : Hp) (ks : List Nat) : ckB o ls (some (hp, ks)) = some (hp, (o :: ls) ++ ks) := (rfl)
theorem kl_nil (thr : Nat) (h : Hp) : keepL thr h [] = [] := (rfl)
theorem kl_cons (thr : Nat) (h : Hp) (v : V) (r : List V) : keepL thr h (v :: r) = keep1 thr h v.slotO (keepL thr h r) := (rfl)
theorem k1_none (thr : Nat) (h : Hp) (l : List Nat) : keep1 thr h none l = l := (rfl)
theorem k1_some (thr : Nat) (h : Hp) (o : Nat) (l : List Nat) : keep1 thr h (some o) l = if o < thr then l else keep2 o (h o) l := (rfl)
theorem k2_some (o : Nat) (ob : Obj) (l : List Nat) : keep2 o (some ob) l = o :: l := (rfl)
theorem k2_none (o : Nat) (l : List Nat) : keep2 o none l = l := (rfl)
theorem rl_nil (thr : Nat) (h : Hp) (m : Nat) : renL thr h [] m = [] := (rfl)
def renT (thr : Nat) (h : Hp) (m : Nat) (v : V) (r : List V) (x : Option Nat) : List V := ren1 thr h m v (renL thr h r) x
theorem rl_cons (thr : Nat) (h : Hp) (m : Nat) (v : V) (r : List V) : renL thr h (v :: r) m = renT thr h m v r v.slotO := (rfl)
theorem rt_none (thr : Nat) (h : Hp) (m : Nat) (v : V) (r : List V) : renT thr h m v r none = v.scrub thr :: renL thr h r m := (rfl)
def renU (thr : Nat) (h : Hp) (m : Nat) (r : List V) (x : Option Obj) : List V := renS m (renL thr h r) x
theorem rt_some (thr : Nat) (h : Hp) (m : Nat) (v : V) (r : List V) (o : Nat) : renT thr h m v r (some o) = if o < thr then v :: renL thr h r m else renU thr h m r (h o) := (rfl)
theorem ru_some (thr : Nat) (h : Hp) (m : Nat) (r : List V) (ob : Obj) : renU thr h m r (some ob) = .sl m :: renL thr h r (m + 1) := (rfl)
theorem ru_none (thr : Nat) (h : Hp) (m : Nat) (r : List V) : renU thr h m r none = .dead :: renL thr h r m := (rfl)
theorem so_lit (v : Value) : V.slotO (.lit v) = none := (rfl)
theorem so_agg (v : List V) : V.slotO (.agg v) = none := (rfl)
theorem so_tup (v : List V) : V.slotO (.tup v) = none := (rfl)
theorem so_fn (f : Fn) (a b : List V) : V.slotO (.fn f a b) = none := (rfl)
theorem so_ptr (o i f : Nat) : V.slotO (.ptr o i f) = none := (rfl)
theorem so_ip (p : Bool) (r : List V) (f : Nat) : V.slotO (.ip p r f) = none := (rfl)
theorem so_sl (o : Nat) : V.slotO (.sl o) = some o := (rfl)
theorem so_isl (p n : Bool) (sz : Nat) (els : List V) : V.slotO (.isl p n sz els) = none := (rfl)
theorem so_own (sz : Nat) (els : List V) : V.slotO (.own sz els) = none := (rfl)
theorem so_dead : V.slotO .dead = none := (rfl)
theorem so_asl (o i f n : Nat) : V.slotO (.asl o i f n) = none := (rfl)
attribute [go_sem] x_V x_W0 x_W1 x_W2 ck_nil ck_cons ck_T ck_B kl_nil kl_cons k1_none k1_some k2_some k2_none rl_nil rl_cons rt_none rt_some ru_some ru_none so_lit so_agg so_tup so_fn so_ptr so_ip so_sl so_isl so_own so_dead so_asl
def coStep (x : Option (Hp × List Nat)) (y : Option (Option Obj × List Nat)) (i : Nat) : Option (Hp × List Nat) :=
  match x with
  | none => none
  | some (hp, ks) => match y with
    | none => none
    | some (y, ls) => some (putO hp i y, ks ++ ls)
theorem co_0 (thr : Nat) (h : Hp) : closeObjs thr h 0 = some (emptyHp, []) := (rfl)
theorem co_s (thr : Nat) (h : Hp) (i : Nat) : closeObjs thr h (i + 1) = coStep (closeObjs thr h i) (closeObj thr h (h i)) i := by
  simp only [closeObjs, coStep]
  cases closeObjs thr h i with
  | none => rfl
  | some x => obtain ⟨hp, ks⟩ := x; cases closeObj thr h (h i) with
    | none => rfl
    | some y => obtain ⟨y, ls⟩ := y; rfl
theorem co_st (hp : Hp) (ks : List Nat) (y : Option Obj) (ls : List Nat) (i : Nat) : coStep (some (hp, ks)) (some (y, ls)) i = some (putO hp i y, ks ++ ls) := (rfl)
def cobD (thr : Nat) (h : Hp) (ob : Obj) (m : AM (List (V × List Nat))) : Option (Option Obj × List Nat) :=
  match m.run h with
  | some x => some (some { ob with els := x.map (·.1) }, (x.map (·.2)).flatten)
  | none => none
theorem cob_none (thr : Nat) (h : Hp) : closeObj thr h none = some (none, []) := (rfl)
theorem cob_some (thr : Nat) (h : Hp) (ob : Obj) : closeObj thr h (some ob) = if ob.dirty = true then cobD thr h ob (amMap (close thr 6) ob.els) else some (some ob, []) := by
  simp only [closeObj, cobD, depth]
  split <;> rfl
theorem cobD_ret (thr : Nat) (h : Hp) (ob : Obj) (x : List (V × List Nat)) : cobD thr h ob (.ret x) = some (some { ob with els := x.map (·.1) }, (x.map (·.2)).flatten) := (rfl)
theorem cobD_rdo (thr : Nat) (h : Hp) (ob : Obj) (o : Nat) (f : Option Obj → AM (List (V × List Nat))) : cobD thr h ob (.rdo o f) = cobD thr h ob (f (h o)) := (rfl)
theorem cl_slt (thr d o : Nat) : close thr (d + 1) (.sl o) = if o < thr then .ret (.sl o, []) else .rdo o fun
    | none => .ret (.dead, [])
    | some ob => if ob.dirty then (amMap (close 0 d) ob.els).bind fun x => if perms (x.map (·.1)) then .ret (.own ob.sz (x.map (·.1)), o :: (x.map (·.2)).flatten) else .fail
      else .ret (.own ob.sz ob.els, [o]) := (rfl)
theorem am_append {α β : Type} (f : α → AM β) : ∀ a b : List α, amMap f (a ++ b) = (amMap f a).bind fun x => (amMap f b).bind fun y => .ret (x ++ y)
  | [], b => by
    simp only [List.nil_append, amMap, bind_ret]
    generalize amMap f b = m
    induction m with
    | ret a => rfl
    | fail => rfl
    | rdo o k ih => simp only [AM.bind]; congr 1; funext x; exact ih x
  | a :: r, b => by simp only [List.cons_append, amMap, am_append f r b, bind_assoc, bind_ret]
abbrev vn (v : V) : V × List Nat := (v, [])
theorem am_cl {α : Type} (thr d : Nat) (f : α → V) (h : ∀ x, close thr d (f x) = .ret (f x, [])) (l : List α) : amMap (close thr d) (l.map f) = .ret ((l.map f).map vn) := by
  rw [am_map _ _ (fun x => vn (f x)) h l, List.map_map]; rfl
theorem am_eW (thr d : Nat) (l : List TWord) : amMap (close thr (d + 2)) (l.map eW) = .ret ((l.map eW).map vn) := am_cl _ _ _ (fun x => by simp only [oS, eS, eW, eI, eR, eWr, eE, cl_agg, am_cons, am_nil, cl_lit, cl_own, cl_isl, bind_ret, List.map_cons, List.map_nil, List.flatten_cons, List.flatten_nil, List.append_nil, List.nil_append]) l
theorem am_eI (thr d : Nat) (l : List TInst) : amMap (close thr (d + 2)) (l.map eI) = .ret ((l.map eI).map vn) := am_cl _ _ _ (fun x => by simp only [oS, eS, eW, eI, eR, eWr, eE, cl_agg, am_cons, am_nil, cl_lit, cl_own, cl_isl, bind_ret, List.map_cons, List.map_nil, List.flatten_cons, List.flatten_nil, List.append_nil, List.nil_append]) l
theorem am_eR (thr d : Nat) (l : List TRead) : amMap (close thr (d + 2)) (l.map eR) = .ret ((l.map eR).map vn) := am_cl _ _ _ (fun x => by simp only [oS, eS, eW, eI, eR, eWr, eE, cl_agg, am_cons, am_nil, cl_lit, cl_own, cl_isl, bind_ret, List.map_cons, List.map_nil, List.flatten_cons, List.flatten_nil, List.append_nil, List.nil_append]) l
theorem am_eWr (thr d : Nat) (l : List TWrite) : amMap (close thr (d + 2)) (l.map eWr) = .ret ((l.map eWr).map vn) := am_cl _ _ _ (fun x => by simp only [oS, eS, eW, eI, eR, eWr, eE, cl_agg, am_cons, am_nil, cl_lit, cl_own, cl_isl, bind_ret, List.map_cons, List.map_nil, List.flatten_cons, List.flatten_nil, List.append_nil, List.nil_append]) l
theorem am_eE (thr d : Nat) (l : List TEvent) : amMap (close thr (d + 2)) (l.map eE) = .ret ((l.map eE).map vn) := am_cl _ _ _ (fun x => by simp only [oS, eS, eW, eI, eR, eWr, eE, cl_agg, am_cons, am_nil, cl_lit, cl_own, cl_isl, bind_ret, List.map_cons, List.map_nil, List.flatten_cons, List.flatten_nil, List.append_nil, List.nil_append]) l
theorem am_oS (thr d : Nat) (l : List TSess) : amMap (close thr (d + 2)) (l.map oS) = .ret ((l.map oS).map vn) := am_cl _ _ _ (fun x => by simp only [oS, eS, eW, eI, eR, eWr, eE, cl_agg, am_cons, am_nil, cl_lit, cl_own, cl_isl, bind_ret, List.map_cons, List.map_nil, List.flatten_cons, List.flatten_nil, List.append_nil, List.nil_append]) l
theorem am_eS (p : Bool) (thr d : Nat) (l : List TSess) : amMap (close thr (d + 2)) (l.map (eS p)) = .ret ((l.map (eS p)).map vn) := am_cl _ _ _ (fun x => by simp only [oS, eS, eW, eI, eR, eWr, eE, cl_agg, am_cons, am_nil, cl_lit, cl_own, cl_isl, bind_ret, List.map_cons, List.map_nil, List.flatten_cons, List.flatten_nil, List.append_nil, List.nil_append]) l
theorem map_fst (l : List V) : List.map (fun x : V × List Nat => x.1) (l.map vn) = l := by simp [Function.comp_def]
theorem map_snd (l : List V) : (List.map (fun x : V × List Nat => x.2) (l.map vn)).flatten = [] := by
  induction l with
  | nil => rfl
  | cons a l ih => simp
theorem perms_eS (l : List TSess) : perms (l.map (eS true)) = true := perms_map _ (fun _ => by simp [eS, V.perm, perms]) l
attribute [go_sem] co_0 co_s co_st cob_none cob_some cobD_ret cobD_rdo cl_slt am_append am_eW am_eI am_eR am_eWr am_eE am_oS am_eS map_fst map_snd perms_eS perms_append List.map_append List.flatten_append
attribute [go_sem low] x_N
theorem s_clonePut (nid sz b sz' : Nat) (els : List V) (d : Bool) : clonePut nid sz b sz' els d = if (els.length : Int) * b ≤ 140737488355328 ∧ 0 < sz ∧ sz' = sz then .ret ⟨.sl nid, [(nid, some ⟨sz, els, d⟩)], 1⟩ else .fail := (rfl)
end Ve

/- Closed runs: an evaluator that is reckoned, beneath the calls without a bound. -/
namespace Ve
open Go
section fx
variable {R : Type}
def OLe (O O' : Orc) : Prop := ∀ g xs h n r, O g xs h n = some r → O' g xs h n = some r
def PLe (P P' : FuncId → List V → Option V) : Prop := ∀ g xs r, P g xs = some r → P' g xs = some r
theorem runR_bind {α β : Type} (m : AM α) (f : α → AM β) (h : Nat → Option Obj) : (m.bind f).runR h = match m.runR h with
    | some x => (match (f x.1).runR h with | some y => some (y.1, x.2 ++ y.2) | none => none)
    | none => none := by
  induction m with
  | ret a =>
    simp only [AM.bind, AM.runR, List.nil_append]
    cases (f a).runR h <;> rfl
  | fail => rfl
  | rdo o k ih =>
    simp only [AM.bind, AM.runR]
    rw [ih (h o)]
    cases (k (h o)).runR h with
    | none => rfl
    | some x =>
      dsimp only
      cases (f x.1).runR h <;> rfl
def RLe (m m' : AM Eff) : Prop := ∀ h r, m.runR h = some r → m'.runR h = some r
theorem RLe.run {m m' : AM Eff} (hm : RLe m m') {h : Nat → Option Obj} {x : Eff} (e : m.run h = some x) : m'.run h = some x := by
  have h1 := m.runR_eq h
  rw [e] at h1
  have h2 := hm h _ h1
  have h3 := m'.runR_eq h
  rw [h2] at h3
  cases h4 : m'.run h with
  | none => rw [h4] at h3; cases h3
  | some y => rw [h4] at h3; simp only [Option.some.injEq, Prod.mk.injEq] at h3; rw [h3.1]
inductive KLe : OpK → OpK → Prop
  | p (v : Option V) : KLe (.p v) (.p v)
  | m {m m' : AM Eff} (h : RLe m m') : KLe (.m m) (.m m')
  | i (g : FuncId) (xs : List V) : KLe (.i g xs) (.i g xs)
theorem KLe.refl : ∀ x, KLe x x
  | .p v => .p v
  | .m _ => .m fun _ _ h => h
  | .i g xs => .i g xs
theorem callPure_le {P P' : FuncId → List V → Option V} (hP : PLe P P') (owns : List Bool) (nid : Nat) (frz : Bool) (g : FuncId) (xs : List V) : RLe (opCallPure P owns nid frz g xs) (opCallPure P' owns nid frz g xs) := by
  intro h r e
  simp only [opCallPure, runR_bind] at e ⊢
  cases hx : (argsMode owns xs).runR h with
  | none => rw [hx] at e; cases e
  | some x =>
    rw [hx] at e
    simp only at e ⊢
    by_cases hn : x.1.2.Nodup
    · simp only [hn, if_true] at e ⊢
      cases hp : P g x.1.1 with
      | none => rw [hp] at e; simp [AM.runR] at e
      | some v => rw [hp] at e; rw [hP _ _ _ hp]; exact e
    · simp only [hn, if_false] at e
      simp [AM.runR] at e
theorem opCall_le {T : Tbl} {P P' : FuncId → List V → Option V} (hP : PLe P P') (nid : Nat) (frz : Bool) (f : V) (args : List V) : KLe (opCall T P nid frz f args) (opCall T P' nid frz f args) := by
  unfold opCall
  split
  · split
    · split
      · exact .refl _
      · split
        · split <;> exact .refl _
        · exact .m (callPure_le hP _ _ _ _ _)
    · exact .refl _
  · exact .refl _
theorem opK_le {L : Lay} {T : Tbl} {P P' : FuncId → List V → Option V} (hP : PLe P P') (e : Operand → V) (nid : Nat) (frz : Bool) (op : Op) : KLe (opK L T P e nid frz op) (opK L T P' e nid frz op) := by
  cases op with
  | call c =>
    simp only [opK]
    split
    all_goals first
      | exact .refl _
      | exact opCall_le hP _ _ _ _
  | _ => exact .refl _
theorem guardM_le {m m' : AM Eff} (h : RLe m m') : ∀ g, RLe (guardM g m) (guardM g m')
  | some true => h
  | some false => fun _ _ e => e
  | none => fun _ _ e => e
theorem runOps_le {L : Lay} {T : Tbl} {O O' : Orc} {P P' : FuncId → List V → Option V} (hO : OLe O O') (hP : PLe P P') : ∀ (ios : List IOp) (s : St) (k k' : St → Option R) (r : R), runOps L T O P ios s k = some r → (∀ s, k s = some r → k' s = some r) → runOps L T O' P' ios s k' = some r
  | [], s, k, k', r, h, hk => hk s h
  | o :: ios, s, k, k', r, h, hk => by
    simp only [runOps] at h ⊢
    have hle := opK_le (L := L) (T := T) hP (eV s.tm) s.n o.frz o.op
    generalize opK L T P (eV s.tm) s.n o.frz o.op = x at h hle
    generalize opK L T P' (eV s.tm) s.n o.frz o.op = y at hle ⊢
    cases hle with
    | p v =>
      simp only [bindP] at h ⊢
      split at h
      · exact runOps_le hO hP ios _ k k' r h hk
      · cases h
    | m hm =>
      simp only [bindM] at h ⊢
      split at h
      · rename_i x hx
        rw [(guardM_le hm _).run hx]
        exact runOps_le hO hP ios _ k k' r h hk
      · cases h
    | i g xs =>
      simp only [bindI] at h ⊢
      cases hg : wantV s.tm o.guard with
      | none => rw [hg] at h; simp [guardI] at h
      | some b =>
        rw [hg] at h
        cases b with
        | false => simp only [guardI] at h ⊢; exact runOps_le hO hP ios _ k k' r h hk
        | true =>
          simp only [guardI] at h ⊢
          cases ho : O g xs s.hp s.n with
          | none => rw [ho] at h; cases h
          | some z => rw [ho] at h; rw [hO _ _ _ _ _ ho]; exact runOps_le hO hP ios _ k k' r h hk
theorem runDraw_le {L : Lay} {T : Tbl} {P P' : FuncId → List V → Option V} (hP : PLe P P') : ∀ (ios : List IOp) (i : Nat) (s : St) (rcs : List Rec) (k k' : St → List Rec → Option R) (r : R), runDraw L T P i ios s rcs k = some r → (∀ s rcs, k s rcs = some r → k' s rcs = some r) →
    runDraw L T P' i ios s rcs k' = some r
  | [], i, s, rcs, k, k', r, h, hk => hk s rcs h
  | o :: ios, i, s, rcs, k, k', r, h, hk => by
    simp only [runDraw] at h ⊢
    have hle := opK_le (L := L) (T := T) hP (eV s.tm) s.n o.frz o.op
    generalize opK L T P (eV s.tm) s.n o.frz o.op = x at h hle
    generalize opK L T P' (eV s.tm) s.n o.frz o.op = y at hle ⊢
    cases hle with
    | p v =>
      simp only [bindP] at h ⊢
      split at h
      · exact runDraw_le hP ios _ _ _ k k' r h hk
      · cases h
    | m hm =>
      simp only [bindR] at h ⊢
      split at h
      · rename_i x hx
        rw [guardM_le hm _ _ _ hx]
        exact runDraw_le hP ios _ _ _ k k' r h hk
      · cases h
    | i g xs => cases h
theorem evC_le {C : Ctx} {O O' : Orc} {P P' : FuncId → List V → Option V} (hO : OLe O O') (hP : PLe P P') {k k' : Nat} (hk : k ≤ k') {r : R} : ∀ (ir : IR),
    (∀ s q q', QLe r q q' → evC C O P k ir s q = some r → evC C O' P' k' ir s q' = some r) ∧ (∀ l s q q', QLe r q q' → evFrom C O P k ir l s q = some r → evFrom C O' P' k' ir l s q' = some r) := by
  intro ir
  induction ir with
  | skip => exact ⟨fun s q q' hq h => by simp only [evC] at h ⊢; exact hq _ _ h, fun l s q q' hq h => by cases h⟩
  | label l0 => exact ⟨fun s q q' hq h => by simp only [evC] at h ⊢; exact hq _ _ h, fun l s q q' hq h => by simp only [evFrom] at h ⊢; exact hq _ _ h⟩
  | region ops d =>
    refine ⟨fun s q q' hq h => ?_, fun l s q q' hq h => by cases h⟩
    cases d with
    | none => simp only [evC] at h ⊢; exact runOps_le hO hP _ _ _ _ _ h (fun s h => hq _ _ h)
    | some bef =>
      simp only [evC] at h ⊢
      split at h
      · refine runDraw_le hP _ _ _ _ _ _ _ h (fun s rcs h => ?_)
        simp only [heapK] at h ⊢
        split at h
        · exact hq _ _ h
        · cases h
      · cases h
  | seq a b iha ihb =>
    have hth : ∀ {q q' : Out → St → Option R}, QLe r q q' → QLe r (thenK (fun s => evC C O P k b s q) q) (thenK (fun s => evC C O' P' k' b s q') q') := by
      intro q q' hq o s h
      cases o with
      | normal => exact ihb.1 _ _ _ hq h
      | exit i => exact hq _ _ h
      | goto l => exact hq _ _ h
      | ret => exact hq _ _ h
    refine ⟨fun s q q' hq h => ?_, fun l s q q' hq h => ?_⟩
    · simp only [evC] at h ⊢; exact iha.1 _ _ _ (hth hq) h
    · simp only [evFrom] at h ⊢
      split at h
      · exact iha.2 _ _ _ _ (hth hq) h
      · exact ihb.2 _ _ _ _ hq h
  | cond c a b iha ihb =>
    refine ⟨fun s q q' hq h => ?_, fun l s q q' hq h => by cases h⟩
    simp only [evC] at h ⊢
    generalize (eV s.tm c).bool? = x at h ⊢
    match x, h with
    | some true, h => exact iha.1 _ _ _ hq h
    | some false, h => exact ihb.1 _ _ _ hq h
    | none, h => cases h
  | block id b ih =>
    refine ⟨fun s q q' hq h => ?_, fun l s q q' hq h => by cases h⟩
    simp only [evC] at h ⊢
    refine ih.1 _ _ _ (fun o s h => ?_) h
    cases o with
    | exit i =>
      simp only [inBlockK] at h ⊢
      split at h <;> exact hq _ _ h
    | normal => exact hq _ _ h
    | goto l => exact hq _ _ h
    | ret => exact hq _ _ h
  | loop live b ih =>
    refine ⟨fun s q q' hq h => ?_, fun l s q q' hq h => by cases h⟩
    simp only [evC] at h ⊢
    have hf : ∀ s' (q q' : Out → St → Option R), QLe r q q' → evC C O P k b s' (restK live q) = some r → evC C O' P' k' b s' (restK live q') = some r := by
      intro s' q q' hq h
      refine ih.1 s' _ _ (fun o s h => ?_) h
      cases o <;> exact hq _ _ h
    exact evLoop_mono (f := fun s q => evC C O P k b s (restK live q)) (f' := fun s q => evC C O' P' k' b s (restK live q)) hf hq _ _ _ hk h
  | exit id live => exact ⟨fun s q q' hq h => by simp only [evC] at h ⊢; exact hq _ _ h, fun l s q q' hq h => by cases h⟩
  | goto l0 => exact ⟨fun s q q' hq h => by simp only [evC] at h ⊢; exact hq _ _ h, fun l s q q' hq h => by cases h⟩
  | ret live => exact ⟨fun s q q' hq h => by simp only [evC] at h ⊢; exact hq _ _ h, fun l s q q' hq h => by cases h⟩
  | refuse => exact ⟨fun s q q' hq h => (by cases h), fun l s q q' hq h => by cases h⟩
  | scope live b ih =>
    refine ⟨fun s q q' hq h => ?_, fun l s q q' hq h => by cases h⟩
    simp only [evC] at h ⊢
    refine ih.1 _ _ _ (fun o s h => ?_) h
    cases o with
    | goto l => exact evScope_mono (f := fun l s q => evFrom C O P k b l s q) (f' := fun l s q => evFrom C O' P' k' b l s q) (fun l s q q' hq h => ih.2 l s q q' hq h) hq _ _ _ _ hk h
    | exit i => exact hq _ _ h
    | normal => exact hq _ _ h
    | ret => exact hq _ _ h

end fx
theorem pureOf_le {O O' : Orc} (hO : OLe O O') : PLe (pureOf O) (pureOf O') := by
  intro g xs r h
  simp only [pureOf] at h ⊢
  split at h
  · rename_i v hp' n' ho
    rw [hO _ _ _ _ _ ho]
    exact h
  · cases h
theorem fn_lv {C : Ctx} : ∀ (i : Nat), OLe (evFn C i) (Lv C i)
  | 0 => fun g xs h n r e => by cases e
  | i + 1 => fun g xs h n r e => by
    refine lv_of (k := i) ?_
    simp only [evFn, evBody] at e ⊢
    split at e
    · cases e
    · exact (evC_le (fn_lv i) (pureOf_le (fn_lv i)) (Nat.le_refl i) _).1 _ _ _ (fun _ _ h => h) e
theorem fn_pure {C : Ctx} (i : Nat) {g : FuncId} {xs : List V} {r : V} (h : pureOf (evFn C i) g xs = some r) : pureOf (Lv C i) g xs = some r := pureOf_le (fn_lv i) _ _ _ h
end Ve

/- Loops, walked in place. -/
namespace Ve
open Go
theorem gl_go {thr : Nat} {live : List Nat} {f : St → (Out → St → Option Ans) → Option Ans} {q : Out → St → Option Ans} {Q : V → Hp → Nat → Prop} {u : Dum f} {w : Dum q} (S : Nat → St) (n : Nat) (good : Nat → Bool)
    (hstep : ∀ j kk, j < n → good j = true → GL thr live f q kk (S (j + 1)) Q u w → GN thr live (S j) (fun s => f s fun o s => thenK (evLoop thr live f q kk) q o s) Q ⟨⟩)
    (hbad : ∀ j kk, j < n → good j = false → (∀ i, i < j → good i = true) → GN thr live (S j) (fun s => f s fun o s => thenK (evLoop thr live f q kk) q o s) Q ⟨⟩)
    (hend : ∀ kk, (∀ i, i < n → good i = true) → GN thr live (S n) (fun s => f s fun o s => thenK (evLoop thr live f q kk) q o s) Q ⟨⟩) :
    ∀ (d j k : Nat), j + d = n → d < k → (∀ i, i < j → good i = true) → GL thr live f q k (S j) Q u w
  | 0, j, 0, _, hk, _ => by omega
  | 0, j, k + 1, hj, _, hg => by
    obtain rfl : j = n := by omega
    exact hend k hg
  | d + 1, j, 0, _, hk, _ => by omega
  | d + 1, j, k + 1, hj, hk, hg => by
    cases hb : good j with
    | false => exact hbad j k (by omega) hb hg
    | true =>
      refine hstep j k (by omega) hb (gl_go S n good hstep hbad hend d (j + 1) k (by omega) (by omega) ?_)
      intro i hi
      rcases Nat.lt_or_eq_of_le (Nat.le_of_lt_succ hi) with h | rfl
      · exact hg i h
      · exact hb
/-- a loop over 0 .. n - 1 that ends early at the first that is not good -/
theorem gl_all {thr : Nat} {live : List Nat} {f : St → (Out → St → Option Ans) → Option Ans} {q : Out → St → Option Ans} {k : Nat} {s : St} {Q : V → Hp → Nat → Prop} {u : Dum f} {w : Dum q} (S : Nat → St) (n : Nat) (good : Nat → Bool) (hs : s = S 0) (hk : n < k)
    (hstep : ∀ j kk, j < n → good j = true → GL thr live f q kk (S (j + 1)) Q u w → GN thr live (S j) (fun s => f s fun o s => thenK (evLoop thr live f q kk) q o s) Q ⟨⟩)
    (hbad : ∀ j kk, j < n → good j = false → (∀ i, i < j → good i = true) → GN thr live (S j) (fun s => f s fun o s => thenK (evLoop thr live f q kk) q o s) Q ⟨⟩)
    (hend : ∀ kk, (∀ i, i < n → good i = true) → GN thr live (S n) (fun s => f s fun o s => thenK (evLoop thr live f q kk) q o s) Q ⟨⟩) :
    GL thr live f q k s Q u w := by
  rw [hs]
  exact gl_go S n good hstep hbad hend n 0 k (by omega) hk (by omega)
/-- a loop that does not end early -/
theorem gl_each {thr : Nat} {live : List Nat} {f : St → (Out → St → Option Ans) → Option Ans} {q : Out → St → Option Ans} {k : Nat} {s : St} {Q : V → Hp → Nat → Prop} {u : Dum f} {w : Dum q} (S : Nat → St) (n : Nat) (hs : s = S 0) (hk : n < k)
    (hstep : ∀ j kk, j < n → GL thr live f q kk (S (j + 1)) Q u w → GN thr live (S j) (fun s => f s fun o s => thenK (evLoop thr live f q kk) q o s) Q ⟨⟩)
    (hend : ∀ kk, GN thr live (S n) (fun s => f s fun o s => thenK (evLoop thr live f q kk) q o s) Q ⟨⟩) :
    GL thr live f q k s Q u w :=
  gl_all S n (fun _ => true) hs hk (fun j kk hj _ => hstep j kk hj) (fun _ _ _ h => by cases h) (fun kk _ => hend kk)
/-- what stands behind the loop's own objects is dropped at its head -/
theorem gl_heap0 {live : List Nat} {f : St → (Out → St → Option Ans) → Option Ans} {q : Out → St → Option Ans} {k : Nat} {tm : Nat → V} {h : Hp} {n : Nat} {Q : V → Hp → Nat → Prop} {u : Dum f} {w : Dum q} (hs : (live.map tm).all (fun v => v.slotO.isNone) = true) :
    GL 0 live f q k ⟨tm, h, n⟩ Q u w = GL 0 live f q k ⟨tm, emptyHp, 0⟩ Q u w := by
  have e1 : ∀ (h : Hp) (vs : List V), vs.all (fun v => v.slotO.isNone) = true → keepL 0 h vs = [] := by
    intro h vs
    induction vs with
    | nil => intro _; rfl
    | cons v r ih =>
      intro hv
      simp only [List.all_cons, Bool.and_eq_true] at hv
      simp only [keepL]
      cases hvo : v.slotO with
      | none => exact ih hv.2
      | some o => rw [hvo] at hv; simp at hv
  have e2 : ∀ (h h' : Hp) (vs : List V) (m : Nat), vs.all (fun v => v.slotO.isNone) = true → renL 0 h vs m = renL 0 h' vs m := by
    intro h h' vs
    induction vs with
    | nil => intro _ _; rfl
    | cons v r ih =>
      intro m hv
      simp only [List.all_cons, Bool.and_eq_true] at hv
      simp only [renL]
      cases hvo : v.slotO with
      | none => simp only [ren1, ih m hv.2]
      | some o => rw [hvo] at hv; simp at hv
  have e3 : norm 0 live ⟨tm, h, n⟩ = norm 0 live ⟨tm, emptyHp, 0⟩ := by
    simp only [norm, normV, e1 _ _ hs, e2 h emptyHp _ _ hs]; rfl
  cases k with
  | zero => rfl
  | succ k =>
    rw [gLs, gLs]
    simp only [GN, normK, e3]
theorem gl_norm {thr : Nat} {live : List Nat} {f : St → (Out → St → Option Ans) → Option Ans} {q : Out → St → Option Ans} {k : Nat} {s s' : St} {Q : V → Hp → Nat → Prop} {u : Dum f} {w : Dum q} (h : GL thr live f q k s Q u w) (e : norm thr live s' = norm thr live s) : GL thr live f q k s' Q u w := by
  cases k with
  | zero => exact h
  | succ k =>
    rw [gLs] at h ⊢
    simp only [GN, normK] at h ⊢
    rw [e]; exact h
/-- a call in the caller's frame, walked in place -/
theorem gi_inl {C : Ctx} {j : Nat} {g : FuncId} {xs : List V} {hp : Hp} {n : Nat} {K : V → Hp → Nat → Option Ans} {Q : V → Hp → Nat → Prop} {u : Dum K} {nt : Nat} {rs : List ResultVar} {ts : List TypeId} {b : IR} {ow : List Bool} {inl : Bool} {cl : Option (Nat × Nat)} (hd : C.T g = some ⟨nt, rs, ts, b, ow, inl, cl⟩) (k : Nat)
    (h : Fin (evC C (Lv C j) (pureOf (Lv C j)) k b ⟨startT xs, hp, n⟩ (endR C.L rs ts)) (fun v h n => Fin (K v h n) Q)) : GI (Lv C (j + 1) g xs hp n) K Q u := by
  obtain ⟨v, h', n', h1, h2⟩ := h
  have h3 : Lv C (j + 1) g xs hp n = some (v, h', n') := by
    refine lv_of (k := k) ?_
    rw [evBody_of hd, ← h1]; rfl
  rw [h3]
  exact h2
end Ve

/- Lists of sessions, one of which was opened. -/
namespace Ve
open Go
theorem am_setS (thr d : Nat) (l : List TSess) (k : Nat) (x : V) (hk : k < l.length) : amMap (close thr (d + 2)) ((l.map oS).set k x) = (close thr (d + 2) x).bind fun y => .ret (((l.map oS).map vn).set k y) :=
  am_set _ vn x _ _ (fun y hy => by
    obtain ⟨s, _, rfl⟩ := List.mem_map.1 hy
    simp only [oS, cl_agg, am_cons, am_nil, cl_lit, cl_own, cl_isl, bind_ret, List.map_cons, List.map_nil, List.flatten_cons, List.flatten_nil, List.append_nil, List.nil_append]) (by simpa using hk)
theorem re_setS (d : Nat) (l : List TSess) (k : Nat) (x : V) (hk : k < l.length) : amMap (reify (d + 2)) ((l.map oS).set k x) = (reify (d + 2) x).bind fun y => .ret ((l.map (eS false)).set k y) := by
  have := am_set (reify (d + 2)) (fun v => v.bz) x (l.map oS) k (fun y hy => by
    obtain ⟨s, _, rfl⟩ := List.mem_map.1 hy
    simp only [oS, bz_agg, bzs_cons, bzs_nil, bz_lit, bz_own, re_agg, am_cons, am_nil, re_lit, re_own, bind_ret]) (by simpa using hk)
  rw [this]
  congr 1
  funext y
  rw [List.map_map]
  congr 3
  funext s
  simp only [Function.comp, oS, eS, bz_agg, bzs_cons, bzs_nil, bz_lit, bz_own, eI_bz, eR_bz, eWr_bz]
theorem map_fst_set (L : List V) (k : Nat) (y : V × List Nat) : List.map (fun x : V × List Nat => x.1) ((L.map vn).set k y) = L.set k y.1 := by
  rw [List.map_set, map_fst]
theorem map_snd_set (L : List V) (k : Nat) (y : V × List Nat) (hk : k < L.length) : (List.map (fun x : V × List Nat => x.2) ((L.map vn).set k y)).flatten = y.2 := by
  induction L generalizing k with
  | nil => simp at hk
  | cons a l ih => cases k with
    | zero => simp only [List.map_cons, List.set_cons_zero, List.flatten_cons]; rw [map_snd]; simp
    | succ k => simp only [List.map_cons, List.set_cons_succ, List.flatten_cons]; rw [ih k (by simpa using hk)]; rfl
theorem perms_set : ∀ (l : List V) (k : Nat) (x : V), perms l = true → x.perm = true → perms (l.set k x) = true
  | [], _, _, _, _ => by simp [perms]
  | a :: l, 0, x, h, hx => by simp only [perms_cons, Bool.and_eq_true] at h; simp only [List.set_cons_zero, perms_cons, hx, h.2, Bool.and_self]
  | a :: l, k + 1, x, h, hx => by simp only [perms_cons, Bool.and_eq_true] at h; simp only [List.set_cons_succ, perms_cons, h.1, perms_set l k x h.2 hx, Bool.and_self]
theorem perms_setS (l : List TSess) (k : Nat) (x : V) (hx : x.perm = true) : perms ((l.map oS).set k x) = true := perms_set _ _ _ (perms_oS l) hx
theorem perms_setSO (l : List TSess) (k : Nat) (s : TSess) : perms ((l.map oS).set k (oS s)) = true := perms_setS _ _ _ (by simp [oS, V.perm, perms])
theorem bzs_set : ∀ (l : List V) (k : Nat) (x : V), bzs (l.set k x) = (bzs l).set k x.bz
  | [], _, _ => by simp [bzs]
  | a :: l, 0, x => by simp [bzs]
  | a :: l, k + 1, x => by simp [bzs, bzs_set l k x]
attribute [go_sem] am_setS re_setS map_fst_set map_snd_set perms_setS bzs_set List.length_map
end Ve
