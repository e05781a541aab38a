/- Short words for the evaluator's tables. -/
import Derived.Test.YtapgmjgledahiaaGreatVeA
import Derived.Test.YtapgmjgledahiaaGreatVeC
set_option linter.all false
set_option linter.unusedSectionVars false
namespace Ve.Ab
open Go
abbrev t (n : Nat) : Operand := .tmp n
abbrev n (x : Int) : Operand := .const (.int .i64 x)
abbrev b (x : Bool) : Operand := .const (.bool x)
abbrev f (x : Nat) : Operand := .func x
abbrev o (d : Nat) (op : Op) : IOp := ⟨some d, op, none, false⟩
abbrev w (op : Op) : IOp := ⟨none, op, none, false⟩
abbrev z (d : Nat) (op : Op) : IOp := ⟨some d, op, none, true⟩
abbrev oT (d : Nat) (op : Op) (g : Nat) : IOp := ⟨some d, op, some (g, true), false⟩
abbrev oF (d : Nat) (op : Op) (g : Nat) : IOp := ⟨some d, op, some (g, false), false⟩
abbrev zT (d : Nat) (op : Op) (g : Nat) : IOp := ⟨some d, op, some (g, true), true⟩
abbrev zF (d : Nat) (op : Op) (g : Nat) : IOp := ⟨some d, op, some (g, false), true⟩
abbrev mv (x : Nat) : Op := .move (.tmp x)
abbrev av (x : Nat) : Op := .assign (.tmp x)
abbrev an (x : Int) : Op := .assign (.const (.int .i64 x))
abbrev ab (x : Bool) : Op := .assign (.const (.bool x))
abbrev ld (ty x : Nat) : Op := .load ty (.tmp x)
abbrev st (ty x y : Nat) : Op := .store ty (.tmp x) (.tmp y)
abbrev fa (ty x i : Nat) : Op := .fieldAddr ty (.tmp x) i
abbrev ia (ty x i : Nat) : Op := .indexAddr ty (.tmp x) (.tmp i)
abbrev nc (x : Nat) : Op := .nilCheck (.tmp x)
abbrev al (ty : Nat) : Op := .alloc ty
abbrev bx (ty x : Nat) : Op := .box ty (.tmp x)
abbrev xt (x i : Nat) : Op := .extract (.tmp x) i
abbrev bo (k : BinOp) (x y : Operand) : Op := .binOp k 3 x y 3
abbrev cl (g : Nat) (xs : Array Operand) (ts : Array TypeId) : Op := .call { callee := .value (.func g), args := xs, argTypes := ts }
abbrev len (x : Nat) (ty : TypeId) : Op := .call { callee := .builtin .len, args := #[.tmp x], argTypes := #[ty] }
abbrev R (xs : List IOp) : IR := .region xs none
abbrev D (xs : List IOp) (ys : List (List Nat)) : IR := .region xs (some ys)
abbrev S (x y : IR) : IR := .seq x y
end Ve.Ab
namespace Ve
def lk {α : Type} : List (Nat × α) → Nat → Option α
  | [], _ => none
  | (k, v) :: r, n => match Nat.beq n k with
    | true => some v
    | false => lk r n
theorem lk_mem {α : Type} : ∀ {l : List (Nat × α)} {n : Nat} {v : α}, lk l n = some v → (n, v) ∈ l
  | [], n, v, h => by cases h
  | (k, w) :: r, n, v, h => by
    simp only [lk] at h
    split at h
    · rename_i hb
      have := Nat.eq_of_beq_eq_true hb
      cases h; subst this; simp
    · exact List.mem_cons_of_mem _ (lk_mem h)
end Ve

/- Models of the program's data, and how the evaluator's values stand for them. -/
namespace Ve
open Go

structure A4 (α : Type) where
  a0 : α
  a1 : α
  a2 : α
  a3 : α
deriving DecidableEq, Inhabited

structure TWord where
  val : Int
  ver : Int
  lock : Int
deriving DecidableEq, Inhabited
structure TInst where
  code : Int
  a : Int
  b : Int
  c : Int
deriving DecidableEq, Inhabited
structure TRead where
  level : Int
  index : Int
  ver : Int
deriving DecidableEq, Inhabited
structure TWrite where
  level : Int
  index : Int
  val : Int
deriving DecidableEq, Inhabited
structure TStart where
  id : Int
  label : Int
  clear : Int
  prog : List TInst
deriving DecidableEq, Inhabited
structure TSess where
  id : Int
  label : Int
  clear : Int
  prog : List TInst
  step : Int
  pc : Int
  regs : A4 Int
  reads : List TRead
  writes : List TWrite
  at_ : Int
  stamp : Int
  tries : Int
  result : Int
  told : Int
deriving DecidableEq, Inhabited
structure TEvent where
  id : Int
  label : Int
  kind : Int
  val : Int
deriving DecidableEq, Inhabited
structure TMach where
  words : A4 (List TWord)
  clocks : A4 Int
  ceil : Int
  sess : List TSess
  trace : List TEvent
deriving DecidableEq, Inhabited
structure TSlot where
  level : Int
  pick : Int
deriving DecidableEq, Inhabited
structure TScript where
  words : A4 (List Int)
  ceil : Int
  starts : List TStart
  slots : List TSlot
deriving DecidableEq, Inhabited

abbrev iV (n : Int) : V := .lit (.int .i64 n)
abbrev bV (b : Bool) : V := .lit (.bool b)
abbrev uV : V := .lit (.tuple #[])

def eW (w : TWord) : V := .agg [iV w.val, iV w.ver, iV w.lock]
def eI (w : TInst) : V := .agg [iV w.code, iV w.a, iV w.b, iV w.c]
def eR (w : TRead) : V := .agg [iV w.level, iV w.index, iV w.ver]
def eWr (w : TWrite) : V := .agg [iV w.level, iV w.index, iV w.val]
def eE (w : TEvent) : V := .agg [iV w.id, iV w.label, iV w.kind, iV w.val]
def eSl (w : TSlot) : V := .agg [iV w.level, iV w.pick]

abbrev eWs (p : Bool) (ws : List TWord) : V := .isl p false 3 (ws.map eW)
abbrev eIs (p : Bool) (ws : List TInst) : V := .isl p false 4 (ws.map eI)
abbrev eRs (p : Bool) (ws : List TRead) : V := .isl p false 3 (ws.map eR)
abbrev eWrs (p : Bool) (ws : List TWrite) : V := .isl p false 3 (ws.map eWr)
abbrev eEs (p : Bool) (ws : List TEvent) : V := .isl p false 4 (ws.map eE)
def eS (p : Bool) (s : TSess) : V := .agg [iV s.id, iV s.label, iV s.clear, eIs p s.prog, iV s.step, iV s.pc, iV s.regs.a0, iV s.regs.a1, iV s.regs.a2, iV s.regs.a3, eRs p s.reads, eWrs p s.writes, iV s.at_, iV s.stamp, iV s.tries, iV s.result, iV s.told]
abbrev eSs (p : Bool) (ws : List TSess) : V := .isl p false 17 (ws.map (eS p))
abbrev cM (p : Bool) (m : TMach) : List V := [eWs p m.words.a0, eWs p m.words.a1, eWs p m.words.a2, eWs p m.words.a3, iV m.clocks.a0, iV m.clocks.a1, iV m.clocks.a2, iV m.clocks.a3, iV m.ceil, eSs p m.sess, eEs p m.trace]
abbrev eM (p : Bool) (m : TMach) : V := .agg (cM p m)

abbrev oWs (ws : List TWord) : V := .own 3 (ws.map eW)
abbrev oIs (ws : List TInst) : V := .own 4 (ws.map eI)
abbrev oRs (ws : List TRead) : V := .own 3 (ws.map eR)
abbrev oWrs (ws : List TWrite) : V := .own 3 (ws.map eWr)
abbrev oEs (ws : List TEvent) : V := .own 4 (ws.map eE)
def oS (s : TSess) : V := .agg [iV s.id, iV s.label, iV s.clear, oIs s.prog, iV s.step, iV s.pc, iV s.regs.a0, iV s.regs.a1, iV s.regs.a2, iV s.regs.a3, oRs s.reads, oWrs s.writes, iV s.at_, iV s.stamp, iV s.tries, iV s.result, iV s.told]
abbrev oSs (ws : List TSess) : V := .own 17 (ws.map oS)
abbrev cO (m : TMach) : List V := [oWs m.words.a0, oWs m.words.a1, oWs m.words.a2, oWs m.words.a3, iV m.clocks.a0, iV m.clocks.a1, iV m.clocks.a2, iV m.clocks.a3, iV m.ceil, oSs m.sess, oEs m.trace]
abbrev oM (m : TMach) : V := .agg (cO m)

/-- the objects that an owned machine comes to -/
abbrev hM (m : TMach) : List Obj := [⟨3, m.words.a0.map eW, false⟩, ⟨3, m.words.a1.map eW, false⟩, ⟨3, m.words.a2.map eW, false⟩, ⟨3, m.words.a3.map eW, false⟩, ⟨17, m.sess.map oS, false⟩, ⟨4, m.trace.map eE, false⟩]

end Ve

/- What the program's functions compute, in plain Lean. -/
namespace Ve
open Go

def orI (a b : Int) : Int := IntKind.wrap .i64 ((BitVec.ofInt 64 a ||| BitVec.ofInt 64 b).toNat : Int)
def andI (a b : Int) : Int := IntKind.wrap .i64 ((BitVec.ofInt 64 a &&& BitVec.ofInt 64 b).toNat : Int)
def xorI (a b : Int) : Int := IntKind.wrap .i64 ((BitVec.ofInt 64 a ^^^ BitVec.ofInt 64 b).toNat : Int)
def wr (a : Int) : Int := IntKind.wrap .i64 a
theorem wr_id {a : Int} (h1 : -9223372036854775808 ≤ a) (h2 : a < 9223372036854775808) : wr a = a := by
  have e1 : (2 ^ IntKind.bits .i64 : Int) = 18446744073709551616 := by decide
  have e2 : (2 ^ (IntKind.bits .i64 - 1) : Int) = 9223372036854775808 := by decide
  simp only [wr, IntKind.wrap, IntKind.signed, Bool.true_and, decide_eq_true_eq, e1, e2]
  split <;> omega

def A4.get {α : Type} (a : A4 α) (i : Int) : α := if i = 0 then a.a0 else if i = 1 then a.a1 else if i = 2 then a.a2 else a.a3
def A4.set {α : Type} (a : A4 α) (i : Int) (x : α) : A4 α := if i = 0 then { a with a0 := x } else if i = 1 then { a with a1 := x } else if i = 2 then { a with a2 := x } else { a with a3 := x }
def A4.all {α : Type} (a : A4 α) (p : α → Bool) : Bool := p a.a0 && p a.a1 && p a.a2 && p a.a3

def inR (x most : Int) : Bool := decide (0 ≤ x) && decide (x ≤ most)
def under (a b : Int) : Bool := decide (orI a b = b)
def wordMay (w : TWord) : Bool := inR w.val 255 && inR w.ver 65535 && inR w.lock 255
def wordIs (c : Int) : Bool := decide (c = 2) || decide (c = 3)
def names (i : TInst) : TInst :=
  if i.code = 0 ∨ i.code = 1 ∨ i.code = 4 then ⟨i.code, i.a, i.b, 0⟩
  else if i.code = 2 ∨ i.code = 3 then i
  else if i.code = 6 then ⟨i.code, i.a, 0, 0⟩
  else ⟨i.code, 0, 0, 0⟩
def instMay (i : TInst) : Bool :=
  if i.code = 0 then inR i.a 3 && inR i.b 255 && decide (i.c = 0)
  else if i.code = 1 then inR i.a 3 && inR i.b 3 && decide (i.c = 0)
  else if i.code = 2 ∨ i.code = 3 then inR i.a 3 && inR i.b 3 && inR i.c 3
  else if i.code = 4 then inR i.a 3 && inR i.b 16 && decide (i.c = 0)
  else if i.code = 5 then decide (i.a = 0) && decide (i.b = 0) && decide (i.c = 0)
  else if i.code = 6 then inR i.a 255 && decide (i.b = 0) && decide (i.c = 0)
  else false
def progGo (n : Int) : Int → List TInst → Bool
  | _, [] => true
  | at_, i :: r => instMay i && !(decide (i.code = 4) && (decide (i.b ≤ at_) || decide (n < i.b))) && progGo n (at_ + 1) r
def progMay (p : List TInst) : Bool := progGo p.length 0 p && decide (p.length ≤ 16)
def startMay (id label clear : Int) (p : List TInst) : Bool := inR id 254 && inR label 3 && inR clear 3 && under label clear && progMay p
def wThere (ws : A4 (List TWord)) (l i : Int) : Bool := inR l 3 && decide (0 ≤ i) && decide (i < (ws.get l).length)
def rowMay (ws : List TWord) : Bool := decide (ws.length ≤ 4) && ws.all wordMay
def arenaMay (ws : A4 (List TWord)) : Bool := ws.all rowMay
def regsMay (rs : A4 Int) : Bool := rs.all fun x => inR x 255
def sameR (r x : TRead) : Bool := decide (x.level = r.level) && decide (x.index = r.index)
def read1 (r : TRead) : Bool := inR r.level 3 && inR r.index 3 && inR r.ver 65535
/-- behind some reads -/
def readsGo (pre : List TRead) : List TRead → Bool
  | [] => true
  | r :: t => read1 r && !(pre.any (sameR r)) && readsGo (pre ++ [r]) t
def readsMay (rs : List TRead) : Bool := readsGo [] rs && decide (rs.length ≤ 16)
def place (l i : Int) : Int := 4 * l + i
def write1 (w : TWrite) : Bool := inR w.level 3 && inR w.index 3 && inR w.val 255
def writesGo : Option TWrite → List TWrite → Bool
  | _, [] => true
  | none, w :: t => write1 w && writesGo (some w) t
  | some v, w :: t => write1 w && decide (place v.level v.index < place w.level w.index) && writesGo (some w) t
def writesMay (ws : List TWrite) : Bool := writesGo none ws && decide (ws.length ≤ 16)
def readsThere (ws : A4 (List TWord)) (rs : List TRead) : Bool := rs.all fun r => wThere ws r.level r.index
def writesThere (ws : A4 (List TWord)) (rs : List TWrite) : Bool := rs.all fun r => wThere ws r.level r.index
def progThere (ws : A4 (List TWord)) (p : List TInst) : Bool := p.all fun i => !(wordIs i.code) || wThere ws i.b i.c
def sessMay (ws : A4 (List TWord)) (s : TSess) : Bool :=
  startMay s.id s.label s.clear s.prog && (readsMay s.reads && writesMay s.writes && readsThere ws s.reads && writesThere ws s.writes && progThere ws s.prog) &&
  (inR s.pc s.prog.length && inR s.at_ s.writes.length && inR s.step 6 && inR s.result 5) && regsMay s.regs && inR s.stamp 65535 && inR s.tries 65535 && inR s.told 255
def idsGo : Option Int → List TSess → Bool
  | _, [] => true
  | none, s :: t => idsGo (some s.id) t
  | some v, s :: t => decide (v < s.id) && idsGo (some s.id) t
def mayM (m : TMach) : Bool :=
  arenaMay m.words && inR m.ceil 65535 && m.clocks.all (fun c => inR c m.ceil) && decide (m.sess.length ≤ 4) && decide (m.trace.length ≤ 512) && idsGo none m.sess && m.sess.all (sessMay m.words) && m.trace.all (fun e => inR e.label 3)
def hereM (m : TMach) (at_ : Int) : Bool := mayM m && decide (0 ≤ at_) && decide (at_ < m.sess.length)
end Ve

/- What the program's functions compute, in plain Lean: steps of sessions. -/
namespace Ve
open Go

def BB0 : Nat := 140737488355328
/-- no list beyond what memory holds -/
structure SmS (s : TSess) : Prop where
  bp : (s.prog.length : Int) * 32 ≤ 140737488355328
  br : (s.reads.length : Int) * 24 ≤ 140737488355328
  bw : (s.writes.length : Int) * 24 ≤ 140737488355328
structure SmM (m : TMach) : Prop where
  b0 : (m.words.a0.length : Int) * 24 ≤ 140737488355328
  b1 : (m.words.a1.length : Int) * 24 ≤ 140737488355328
  b2 : (m.words.a2.length : Int) * 24 ≤ 140737488355328
  b3 : (m.words.a3.length : Int) * 24 ≤ 140737488355328
  bs : (m.sess.length : Int) * 184 ≤ 140737488355328
  bt : (m.trace.length : Int) * 32 ≤ 140737488355328
  s : ∀ s ∈ m.sess, SmS s

def freeW (c : Int) (w : TWord) : TWord := if w.lock = c then { w with lock := 0 } else w
def dropS (s : TSess) : TSess := { s with reads := [], writes := [], at_ := 0, stamp := 0 }
def zeroM : TMach := ⟨⟨[], [], [], []⟩, ⟨0, 0, 0, 0⟩, 0, [], []⟩
def freeM (c : Int) (m : TMach) : TMach := { m with words := ⟨m.words.a0.map (freeW c), m.words.a1.map (freeW c), m.words.a2.map (freeW c), m.words.a3.map (freeW c)⟩ }
def setS (m : TMach) (k : Nat) (s : TSess) : TMach := { m with sess := m.sess.set k s }
def tellM (m : TMach) (e : TEvent) : TMach := if m.trace.length < 512 then { m with trace := m.trace ++ [e] } else m
def minT (t : Int) : Int := if 65535 < IntKind.wrap .i64 (t + 1) then 65535 else IntKind.wrap .i64 (t + 1)
def againS (s : TSess) : TSess := { dropS s with pc := 0, regs := ⟨0, 0, 0, 0⟩, step := 0, tries := minT s.tries }
def endS (s : TSess) (result told : Int) : TSess := { dropS s with step := 6, result := result, told := told }
def againM (m : TMach) (at_ kind : Int) : TMach × Int :=
  if (hereM m at_ && (decide (kind = 3) || decide (kind = 5))) = true then
    match m.sess[at_.toNat]? with
    | some s => (tellM (setS (freeM (IntKind.wrap .i64 (s.id + 1)) m) at_.toNat (againS s)) ⟨s.id, s.label, kind, minT s.tries⟩, 0)
    | none => (zeroM, 1300)
  else (zeroM, 1300)
def endM (m : TMach) (at_ result told : Int) : TMach × Int :=
  if (hereM m at_ && inR result 5 && inR told 255) = true then
    match m.sess[at_.toNat]? with
    | some s => (tellM (setS (freeM (IntKind.wrap .i64 (s.id + 1)) m) at_.toNat (endS s result told)) ⟨s.id, s.label, 6, result⟩, 0)
    | none => (zeroM, 1300)
  else (zeroM, 1300)

/-! words, clocks, registers, sets -/
def zeroW : TWord := ⟨0, 0, 0⟩
def lockW (w : TWord) (id : Int) : TWord × Int :=
  if (wordMay w && inR id 254) = true then (if w.lock = 0 then ({ w with lock := id + 1 }, 0) else (zeroW, 301)) else (zeroW, 300)
def writeW (w : TWord) (v ver : Int) : TWord × Int :=
  if (wordMay w && wordMay ⟨v, ver, 0⟩) = true then (⟨v, ver, 0⟩, 0) else (zeroW, 300)
def zero4 : A4 Int := ⟨0, 0, 0, 0⟩
def nextC (cs : A4 Int) (l c : Int) : A4 Int × Int × Int :=
  if (cs.all (fun x => inR x 65535) && inR c 65535 && inR l 3) = true then
    (if c ≤ cs.get l then (zero4, 0, 501) else (cs.set l (cs.get l + 1), cs.get l + 1, 0))
  else (zero4, 0, 500)
def setR (rs : A4 Int) (a v : Int) : A4 Int × Int :=
  if (regsMay rs && inR a 3 && inR v 255) = true then (rs.set a v, 0) else (zero4, 600)
def addR (rs : A4 Int) (a b : Int) : A4 Int × Int :=
  if (regsMay rs && inR a 3 && inR b 3) = true then (rs.set a ((rs.get a + rs.get b) % 256), 0) else (zero4, 600)
def getW (ws : A4 (List TWord)) (l i : Int) : TWord := (ws.get l)[i.toNat]?.getD zeroW
def goodR (ws : A4 (List TWord)) (id : Int) (r : TRead) : Bool :=
  decide ((getW ws r.level r.index).ver = r.ver) && (decide ((getW ws r.level r.index).lock = 0) || decide ((getW ws r.level r.index).lock = id + 1))
def goodM (ws : A4 (List TWord)) (rs : List TRead) (id : Int) : Bool × Int :=
  if (arenaMay ws && readsMay rs && readsThere ws rs && inR id 254) = true then (rs.all (goodR ws id), 0) else (false, 900)
def chgR (ws : A4 (List TWord)) (r : TRead) : Bool := !decide ((getW ws r.level r.index).ver = r.ver)
def changedM (ws : A4 (List TWord)) (rs : List TRead) : Bool × Int :=
  if (arenaMay ws && readsMay rs && readsThere ws rs) = true then (rs.any (chgR ws), 0) else (false, 900)
def withRead (rs : List TRead) (r : TRead) : List TRead × Int :=
  if (readsMay rs && read1 r) = true then (if rs.any (sameR r) = true then (rs, 0) else if rs.length = 16 then ([], 900) else (rs ++ [r], 0)) else ([], 900)
def insW (w : TWrite) : List TWrite → List TWrite
  | [] => [w]
  | x :: r => if place x.level x.index < place w.level w.index then x :: insW w r else if place x.level x.index = place w.level w.index then w :: r else w :: x :: r
def withWrite (ws : List TWrite) (w : TWrite) : List TWrite × Int :=
  if (writesMay ws && write1 w) = true then (insW w ws, 0) else ([], 1000)
def findGoW (l i : Int) : List TWrite → Int × Bool
  | [] => (0, false)
  | x :: r => if x.level = l ∧ x.index = i then (x.val, true) else findGoW l i r
def findWrite (ws : List TWrite) (l i : Int) : Int × Bool := if writesMay ws = true then findGoW l i ws else (0, false)
def writesAt (ws : List TWrite) (l : Int) : Bool := writesMay ws && ws.all (fun w => decide (w.level = l))

/-! steps -/
/-- a session that runs, and the instruction at which it is -/
def curI (m : TMach) (at_ : Int) : Option (TSess × TInst) :=
  if hereM m at_ = true then
    match m.sess[at_.toNat]? with
    | some s => if s.step = 0 then (match s.prog[s.pc.toNat]? with
      | some i => some (s, i)
      | none => none) else none
    | none => none
  else none
/-- a session at a step -/
def curS (m : TMach) (at_ step : Int) : Option TSess :=
  if hereM m at_ = true then
    match m.sess[at_.toNat]? with
    | some s => if s.step = step then some s else none
    | none => none
  else none
def needsM (m : TMach) (at_ : Int) : Bool × Int :=
  match curI m at_ with
  | some (s, i) => if i.code = 2 then (!under i.b s.label, 0) else (false, 1400)
  | none => (false, 1400)
def driftM (m : TMach) (at_ : Int) : TMach × Int :=
  match curI m at_ with
  | some (s, i) => if i.code = 2 then (if under i.b s.label = true then (zeroM, 1400)
      else if under (orI s.label i.b) s.clear = true then (setS (tellM m ⟨s.id, s.label, 2, orI s.label i.b⟩) at_.toNat { s with label := orI s.label i.b }, 0)
      else endM m at_ 4 0) else (zeroM, 1400)
  | none => (zeroM, 1400)
def readS (s : TSess) (i : TInst) (rs : List TRead) (v : Int) : TSess := { s with reads := rs, regs := s.regs.set i.a v, pc := s.pc + 1 }
def fetchM (m : TMach) (at_ : Int) : TMach × Int :=
  match curI m at_ with
  | some (s, i) => if i.code = 2 then (if under i.b s.label = true then
      (if (findWrite s.writes i.b i.c).2 = true then (tellM (setS m at_.toNat (readS s i s.reads (findWrite s.writes i.b i.c).1)) ⟨s.id, s.label, 0, (findWrite s.writes i.b i.c).1⟩, 0)
      else if (goodM m.words s.reads s.id).1 = true ∧ (getW m.words i.b i.c).lock = 0 then
        (tellM (setS m at_.toNat (readS s i (withRead s.reads ⟨i.b, i.c, (getW m.words i.b i.c).ver⟩).1 (getW m.words i.b i.c).val)) ⟨s.id, s.label, 0, (getW m.words i.b i.c).val⟩, 0)
      else againM m at_ 3)
      else (zeroM, 1500)) else (zeroM, 1500)
  | none => (zeroM, 1500)
def storeM (m : TMach) (at_ : Int) : TMach × Int :=
  match curI m at_ with
  | some (s, i) => if i.code = 3 then (tellM (setS m at_.toNat { s with writes := (withWrite s.writes ⟨i.b, i.c, s.regs.get i.a⟩).1, pc := s.pc + 1 }) ⟨s.id, s.label, 1, s.regs.get i.a⟩, 0) else (zeroM, 1600)
  | none => (zeroM, 1600)
def calcM (m : TMach) (at_ : Int) : TMach × Int :=
  match curI m at_ with
  | some (s, i) =>
    if i.code = 0 then (setS m at_.toNat { s with regs := (setR s.regs i.a i.b).1, pc := s.pc + 1 }, 0)
    else if i.code = 1 then (setS m at_.toNat { s with regs := (addR s.regs i.a i.b).1, pc := s.pc + 1 }, 0)
    else if i.code = 4 then (setS m at_.toNat { s with pc := if s.regs.get i.a = 0 then i.b else s.pc + 1 }, 0)
    else (zeroM, 1700)
  | none => (zeroM, 1700)
def setA {α : Type} (ws : A4 (List α)) (l i : Int) (w : α) : A4 (List α) := ws.set l ((ws.get l).set i.toNat w)
def setW (m : TMach) (l i : Int) (w : TWord) : TMach := { m with words := setA m.words l i w }
/-- the write that is next -/
def leftM (m : TMach) (at_ step : Int) : Option (TSess × TWrite) :=
  match curS m at_ step with
  | some s => match s.writes[s.at_.toNat]? with
    | some w => some (s, w)
    | none => none
  | none => none
def grabM (m : TMach) (at_ : Int) : TMach × Int :=
  match leftM m at_ 1 with
  | some (s, p) => if (getW m.words p.level p.index).lock = 0 then
      (setS (setW m p.level p.index { getW m.words p.level p.index with lock := s.id + 1 }) at_.toNat { s with at_ := s.at_ + 1, step := if s.at_ + 1 = s.writes.length then 2 else s.step }, 0)
    else againM m at_ 3
  | none => (zeroM, 1800)
def stampM (m : TMach) (at_ : Int) : TMach × Int :=
  match curS m at_ 2 with
  | some s => if m.ceil ≤ m.clocks.get s.label then endM m at_ 5 0
    else (setS { m with clocks := m.clocks.set s.label (m.clocks.get s.label + 1) } at_.toNat { s with stamp := m.clocks.get s.label + 1, step := 3 }, 0)
  | none => (zeroM, 1900)
def checkM (m : TMach) (at_ : Int) : TMach × Int :=
  match curS m at_ 3 with
  | some s => if (goodM m.words s.reads s.id).1 = true then (if s.writes = [] then endM m at_ 1 0 else (setS m at_.toNat { s with at_ := 0, step := 4 }, 0))
    else againM m at_ 3
  | none => (zeroM, 2000)
/-- a word written, a place further -/
def wroteM (m : TMach) (at_ : Int) (s : TSess) (p : TWrite) : TMach := setS (setW m p.level p.index ⟨p.val, s.stamp, 0⟩) at_.toNat { s with at_ := s.at_ + 1 }
def backM (m : TMach) (at_ : Int) : TMach × Int :=
  match leftM m at_ 4 with
  | some (s, p) => if s.at_ + 1 = s.writes.length then endM (wroteM m at_ s p) at_ 1 0 else (wroteM m at_ s p, 0)
  | none => (zeroM, 2100)
def parkM (m : TMach) (at_ : Int) : TMach × Int :=
  match curI m at_ with
  | some (s, i) => if i.code = 5 then (tellM (setS m at_.toNat { s with writes := [], at_ := 0, step := 5 }) ⟨s.id, s.label, 4, s.reads.length⟩, 0) else (zeroM, 2200)
  | none => match curS m at_ 5 with
    | some s => if (changedM m.words s.reads).1 = true then againM m at_ 5 else (m, 0)
    | none => (zeroM, 2200)
def lastM (m : TMach) (at_ : Int) (s : TSess) : TMach × Int :=
  if writesAt s.writes s.label = true then (setS m at_.toNat { s with at_ := 0, step := if s.writes = [] then 3 else 1 }, 0) else endM m at_ 3 0
def runSM (m : TMach) (at_ : Int) (s : TSess) : TMach × Int :=
  match s.prog[s.pc.toNat]? with
  | some i =>
    if i.code = 2 then (if (needsM m at_).1 = true then driftM m at_ else fetchM m at_)
    else if i.code = 3 then storeM m at_
    else if i.code = 5 then parkM m at_
    else if i.code = 6 then endM m at_ 2 i.a
    else calcM m at_
  | none => lastM m at_ s
def stepRaw (m : TMach) (at_ : Int) (s : TSess) : TMach × Int :=
  if s.step = 0 then runSM m at_ s
  else if s.step = 1 then grabM m at_
  else if s.step = 2 then stampM m at_
  else if s.step = 3 then checkM m at_
  else if s.step = 4 then backM m at_
  else if s.step = 5 then parkM m at_
  else (m, 0)
def stepM (m : TMach) (at_ : Int) : TMach × Int :=
  if hereM m at_ = true then
    match m.sess[at_.toNat]? with
    | some s => if (stepRaw m at_ s).2 = 0 then ((stepRaw m at_ s).1, 0) else (zeroM, 2300)
    | none => (zeroM, 2300)
  else (zeroM, 2300)
end Ve

/- Laws of the models. -/
namespace Ve
open Go
theorem get_lt {α : Type} {l : List α} {k : Nat} {s : α} (hs : l[k]? = some s) : k < l.length := by
  rcases Nat.lt_or_ge k l.length with h | h
  · exact h
  · rw [List.getElem?_eq_none h] at hs; cases hs
/-- what is beneath a machine that may be -/
theorem may_sess {m : TMach} (h : mayM m = true) {k : Nat} {s : TSess} (hs : m.sess[k]? = some s) : sessMay m.words s = true := by
  simp only [mayM, Bool.and_eq_true] at h
  exact (List.all_eq_true.mp h.1.2) s (List.mem_of_getElem? hs)
theorem here_may {m : TMach} {at_ : Int} (h : hereM m at_ = true) : mayM m = true := by
  simp only [hereM, Bool.and_eq_true] at h; exact h.1.1
theorem here_get {m : TMach} {at_ : Int} (h : hereM m at_ = true) : ∃ s k, at_ = (k : Nat) ∧ m.sess[k]? = some s ∧ k < m.sess.length := by
  simp only [hereM, Bool.and_eq_true, decide_eq_true_eq] at h
  have hl : at_.toNat < m.sess.length := by omega
  exact ⟨m.sess[at_.toNat], at_.toNat, by omega, by simp [hl], hl⟩
theorem here_trace {m : TMach} {at_ : Int} (h : hereM m at_ = true) : m.trace.length ≤ 512 := by
  simp only [hereM, mayM, Bool.and_eq_true, decide_eq_true_eq] at h
  omega
theorem sm_zero : SmM zeroM := by
  constructor <;> simp [zeroM]
theorem sm_free {m : TMach} (h : SmM m) (c : Int) : SmM (freeM c m) := by
  obtain ⟨h0, h1, h2, h3, hs, ht, hp⟩ := h
  constructor <;> simp_all [freeM]
theorem sm_tell {m : TMach} (h : SmM m) (e : TEvent) : SmM (tellM m e) := by
  obtain ⟨h0, h1, h2, h3, hs, ht, hp⟩ := h
  unfold tellM
  split
  · constructor <;> simp_all <;> omega
  · constructor <;> simp_all
theorem sm_set {m : TMach} (h : SmM m) (k : Nat) (s : TSess) (hs : SmS s) : SmM (setS m k s) := by
  obtain ⟨h0, h1, h2, h3, hs', ht, hp⟩ := h
  refine ⟨h0, h1, h2, h3, by simpa [setS] using hs', ht, ?_⟩
  intro x hx
  simp only [setS] at hx
  rcases List.mem_or_eq_of_mem_set hx with h | rfl
  · exact hp x h
  · exact hs
theorem sm_drop {s : TSess} (h : SmS s) : SmS (dropS s) := ⟨h.bp, by simp [dropS], by simp [dropS]⟩
theorem sm_again {m : TMach} (h : SmM m) (at_ kind : Int) : SmM (againM m at_ kind).1 := by
  unfold againM
  split
  · split
    · rename_i s hs
      have hS : SmS (againS s) := ⟨(h.s s (List.mem_of_getElem? hs)).bp, by simp [againS, dropS], by simp [againS, dropS]⟩
      exact sm_tell (sm_set (sm_free h _) _ _ hS) _
    · exact sm_zero
  · exact sm_zero
theorem sm_end {m : TMach} (h : SmM m) (at_ result told : Int) : SmM (endM m at_ result told).1 := by
  unfold endM
  split
  · split
    · rename_i s hs
      have hS : SmS (endS s result told) := ⟨(h.s s (List.mem_of_getElem? hs)).bp, by simp [endS, dropS], by simp [endS, dropS]⟩
      exact sm_tell (sm_set (sm_free h _) _ _ hS) _
    · exact sm_zero
  · exact sm_zero
end Ve
