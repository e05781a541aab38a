/- Spoiled: what was handed out is written over. -/
import Derived.Test.YtapgmjgledahiaaGreatS19
set_option linter.all false
set_option linter.unusedSectionVars false
namespace Ve
open Go Ve.Ab
set_option maxHeartbeats 16000000
set_option maxRecDepth 10000


def spWords (a : TWord) : TWord := { a with val := xorI a.val 90 }
theorem l_spoilWords (i k : Nat) (xs : List TWord) (hx : xs.length ≤ BB) (q : Out → St → Option Ans) (Q : V → Hp → Nat → Prop) : ∀ (suf pre : List TWord) (kk : Nat), xs = pre ++ suf → suf.length < kk + 1 →
    Fin (evC ctx (Lv ctx i) (pureOf (Lv ctx i)) k c85_1 ⟨ofLive [0, 2] [.sl 0, iV pre.length], pO emptyHp 0 (some ⟨3, (pre.map spWords).map eW ++ suf.map eW, false⟩), 1⟩ (restK [0, 2] fun o s => thenK (evLoop 1 [0, 2] (fun s q => evC ctx (Lv ctx i) (pureOf (Lv ctx i)) k c85_1 s (restK [0, 2] q)) q kk) q o s)) Q =
    Fin (q (.exit 0) ⟨ofLive [] [], pO emptyHp 0 (some ⟨3, (xs.map spWords).map eW, false⟩), 1⟩) Q
  | [], pre, kk, hxs, hk => by
    have h1 : decide ((pre.length : Int) < (pre.length : Int)) = false := by simp
    have h2 : xs = pre := by simp [hxs]
    rw [un_c (c85_1.eq_1)]
    simp only [List.map_nil, List.append_nil]
    rw [h2]
    simp +contextual -dsimp -implicitDefEqProofs (maxSteps := 5000000) only [h1, List.length_map, go_sem, simprocAttr]
  | a :: suf, pre, kk, hxs, hk => by
    obtain ⟨kk, rfl⟩ : ∃ m, kk = m + 1 := ⟨kk - 1, by simp at hk; omega⟩
    have h2 : ((pre.length : Int) < ((pre.length + (suf.length + 1) : Nat) : Int)) = True := by simp; omega
    have h3 : (0 ≤ (pre.length : Int)) = True := by simp
    have h4 := wrN pre.length (by rw [hxs] at hx; simp at hx; omega)
    have hg : ((pre.map spWords).map eW ++ (a :: suf).map eW)[pre.length]? = some (eW a) := by simp
    have hset : ∀ x, ((pre.map spWords).map eW ++ (a :: suf).map eW).set pre.length x = (pre.map spWords).map eW ++ x :: suf.map eW := by intro x; simp [List.set_append]
    have ih := l_spoilWords i k xs hx q Q suf (pre ++ [a]) kk (by simp [hxs]) (by simpa using hk)
    simp only [append_len1, List.map_append, List.map_cons, List.map_nil, List.append_assoc, List.cons_append, List.nil_append, eW, spWords] at ih
    simp only [eW, List.map_cons] at hg hset ⊢
    rw [un_c (c85_1.eq_1)]
    simp +contextual -dsimp -implicitDefEqProofs (maxSteps := 5000000) only [h2, h3, h4, hg, hset, gLs, go_sem, simprocAttr]
    exact ih
theorem s_spoilWords (i : Nat) (xs : List TWord) (hx : xs.length ≤ BB) : pureOf (Lv ctx (i + 1)) 85 [.own 3 (xs.map eW)] = some (.tup []) := by
  refine sp_of rfl (xs.length + 1) (by rfl) ?_
  delta c85
  have hl := fun q Q => l_spoilWords i (xs.length + 1) xs hx q Q xs [] xs.length rfl (by omega)
  simp only [List.length_nil, Int.natCast_zero, List.map_nil, List.nil_append] at hl
  simp +contextual -dsimp -implicitDefEqProofs (maxSteps := 5000000) only [gLs, go_sem, simprocAttr]
  refine Eq.mpr (hl _ _) ?_
  simp +contextual -dsimp -implicitDefEqProofs (maxSteps := 5000000) only [go_sem, simprocAttr]


def spInsts (a : TInst) : TInst := { a with a := xorI a.a 90 }
theorem l_spoilInsts (i k : Nat) (xs : List TInst) (hx : xs.length ≤ BB) (q : Out → St → Option Ans) (Q : V → Hp → Nat → Prop) : ∀ (suf pre : List TInst) (kk : Nat), xs = pre ++ suf → suf.length < kk + 1 →
    Fin (evC ctx (Lv ctx i) (pureOf (Lv ctx i)) k c86_1 ⟨ofLive [0, 2] [.sl 0, iV pre.length], pO emptyHp 0 (some ⟨4, (pre.map spInsts).map eI ++ suf.map eI, false⟩), 1⟩ (restK [0, 2] fun o s => thenK (evLoop 1 [0, 2] (fun s q => evC ctx (Lv ctx i) (pureOf (Lv ctx i)) k c86_1 s (restK [0, 2] q)) q kk) q o s)) Q =
    Fin (q (.exit 0) ⟨ofLive [] [], pO emptyHp 0 (some ⟨4, (xs.map spInsts).map eI, false⟩), 1⟩) Q
  | [], pre, kk, hxs, hk => by
    have h1 : decide ((pre.length : Int) < (pre.length : Int)) = false := by simp
    have h2 : xs = pre := by simp [hxs]
    rw [un_c (c86_1.eq_1)]
    simp only [List.map_nil, List.append_nil]
    rw [h2]
    simp +contextual -dsimp -implicitDefEqProofs (maxSteps := 5000000) only [h1, List.length_map, go_sem, simprocAttr]
  | a :: suf, pre, kk, hxs, hk => by
    obtain ⟨kk, rfl⟩ : ∃ m, kk = m + 1 := ⟨kk - 1, by simp at hk; omega⟩
    have h2 : ((pre.length : Int) < ((pre.length + (suf.length + 1) : Nat) : Int)) = True := by simp; omega
    have h3 : (0 ≤ (pre.length : Int)) = True := by simp
    have h4 := wrN pre.length (by rw [hxs] at hx; simp at hx; omega)
    have hg : ((pre.map spInsts).map eI ++ (a :: suf).map eI)[pre.length]? = some (eI a) := by simp
    have hset : ∀ x, ((pre.map spInsts).map eI ++ (a :: suf).map eI).set pre.length x = (pre.map spInsts).map eI ++ x :: suf.map eI := by intro x; simp [List.set_append]
    have ih := l_spoilInsts i k xs hx q Q suf (pre ++ [a]) kk (by simp [hxs]) (by simpa using hk)
    simp only [append_len1, List.map_append, List.map_cons, List.map_nil, List.append_assoc, List.cons_append, List.nil_append, eI, spInsts] at ih
    simp only [eI, List.map_cons] at hg hset ⊢
    rw [un_c (c86_1.eq_1)]
    simp +contextual -dsimp -implicitDefEqProofs (maxSteps := 5000000) only [h2, h3, h4, hg, hset, gLs, go_sem, simprocAttr]
    exact ih
theorem s_spoilInsts (i : Nat) (xs : List TInst) (hx : xs.length ≤ BB) : pureOf (Lv ctx (i + 1)) 86 [.own 4 (xs.map eI)] = some (.tup []) := by
  refine sp_of rfl (xs.length + 1) (by rfl) ?_
  delta c86
  have hl := fun q Q => l_spoilInsts i (xs.length + 1) xs hx q Q xs [] xs.length rfl (by omega)
  simp only [List.length_nil, Int.natCast_zero, List.map_nil, List.nil_append] at hl
  simp +contextual -dsimp -implicitDefEqProofs (maxSteps := 5000000) only [gLs, go_sem, simprocAttr]
  refine Eq.mpr (hl _ _) ?_
  simp +contextual -dsimp -implicitDefEqProofs (maxSteps := 5000000) only [go_sem, simprocAttr]


def spReads (a : TRead) : TRead := { a with index := xorI a.index 90 }
theorem l_spoilReads (i k : Nat) (xs : List TRead) (hx : xs.length ≤ BB) (q : Out → St → Option Ans) (Q : V → Hp → Nat → Prop) : ∀ (suf pre : List TRead) (kk : Nat), xs = pre ++ suf → suf.length < kk + 1 →
    Fin (evC ctx (Lv ctx i) (pureOf (Lv ctx i)) k c87_1 ⟨ofLive [0, 2] [.sl 0, iV pre.length], pO emptyHp 0 (some ⟨3, (pre.map spReads).map eR ++ suf.map eR, false⟩), 1⟩ (restK [0, 2] fun o s => thenK (evLoop 1 [0, 2] (fun s q => evC ctx (Lv ctx i) (pureOf (Lv ctx i)) k c87_1 s (restK [0, 2] q)) q kk) q o s)) Q =
    Fin (q (.exit 0) ⟨ofLive [] [], pO emptyHp 0 (some ⟨3, (xs.map spReads).map eR, false⟩), 1⟩) Q
  | [], pre, kk, hxs, hk => by
    have h1 : decide ((pre.length : Int) < (pre.length : Int)) = false := by simp
    have h2 : xs = pre := by simp [hxs]
    rw [un_c (c87_1.eq_1)]
    simp only [List.map_nil, List.append_nil]
    rw [h2]
    simp +contextual -dsimp -implicitDefEqProofs (maxSteps := 5000000) only [h1, List.length_map, go_sem, simprocAttr]
  | a :: suf, pre, kk, hxs, hk => by
    obtain ⟨kk, rfl⟩ : ∃ m, kk = m + 1 := ⟨kk - 1, by simp at hk; omega⟩
    have h2 : ((pre.length : Int) < ((pre.length + (suf.length + 1) : Nat) : Int)) = True := by simp; omega
    have h3 : (0 ≤ (pre.length : Int)) = True := by simp
    have h4 := wrN pre.length (by rw [hxs] at hx; simp at hx; omega)
    have hg : ((pre.map spReads).map eR ++ (a :: suf).map eR)[pre.length]? = some (eR a) := by simp
    have hset : ∀ x, ((pre.map spReads).map eR ++ (a :: suf).map eR).set pre.length x = (pre.map spReads).map eR ++ x :: suf.map eR := by intro x; simp [List.set_append]
    have ih := l_spoilReads i k xs hx q Q suf (pre ++ [a]) kk (by simp [hxs]) (by simpa using hk)
    simp only [append_len1, List.map_append, List.map_cons, List.map_nil, List.append_assoc, List.cons_append, List.nil_append, eR, spReads] at ih
    simp only [eR, List.map_cons] at hg hset ⊢
    rw [un_c (c87_1.eq_1)]
    simp +contextual -dsimp -implicitDefEqProofs (maxSteps := 5000000) only [h2, h3, h4, hg, hset, gLs, go_sem, simprocAttr]
    exact ih
theorem s_spoilReads (i : Nat) (xs : List TRead) (hx : xs.length ≤ BB) : pureOf (Lv ctx (i + 1)) 87 [.own 3 (xs.map eR)] = some (.tup []) := by
  refine sp_of rfl (xs.length + 1) (by rfl) ?_
  delta c87
  have hl := fun q Q => l_spoilReads i (xs.length + 1) xs hx q Q xs [] xs.length rfl (by omega)
  simp only [List.length_nil, Int.natCast_zero, List.map_nil, List.nil_append] at hl
  simp +contextual -dsimp -implicitDefEqProofs (maxSteps := 5000000) only [gLs, go_sem, simprocAttr]
  refine Eq.mpr (hl _ _) ?_
  simp +contextual -dsimp -implicitDefEqProofs (maxSteps := 5000000) only [go_sem, simprocAttr]


def spWrites (a : TWrite) : TWrite := { a with index := xorI a.index 90 }
theorem l_spoilWrites (i k : Nat) (xs : List TWrite) (hx : xs.length ≤ BB) (q : Out → St → Option Ans) (Q : V → Hp → Nat → Prop) : ∀ (suf pre : List TWrite) (kk : Nat), xs = pre ++ suf → suf.length < kk + 1 →
    Fin (evC ctx (Lv ctx i) (pureOf (Lv ctx i)) k c88_1 ⟨ofLive [0, 2] [.sl 0, iV pre.length], pO emptyHp 0 (some ⟨3, (pre.map spWrites).map eWr ++ suf.map eWr, false⟩), 1⟩ (restK [0, 2] fun o s => thenK (evLoop 1 [0, 2] (fun s q => evC ctx (Lv ctx i) (pureOf (Lv ctx i)) k c88_1 s (restK [0, 2] q)) q kk) q o s)) Q =
    Fin (q (.exit 0) ⟨ofLive [] [], pO emptyHp 0 (some ⟨3, (xs.map spWrites).map eWr, false⟩), 1⟩) Q
  | [], pre, kk, hxs, hk => by
    have h1 : decide ((pre.length : Int) < (pre.length : Int)) = false := by simp
    have h2 : xs = pre := by simp [hxs]
    rw [un_c (c88_1.eq_1)]
    simp only [List.map_nil, List.append_nil]
    rw [h2]
    simp +contextual -dsimp -implicitDefEqProofs (maxSteps := 5000000) only [h1, List.length_map, go_sem, simprocAttr]
  | a :: suf, pre, kk, hxs, hk => by
    obtain ⟨kk, rfl⟩ : ∃ m, kk = m + 1 := ⟨kk - 1, by simp at hk; omega⟩
    have h2 : ((pre.length : Int) < ((pre.length + (suf.length + 1) : Nat) : Int)) = True := by simp; omega
    have h3 : (0 ≤ (pre.length : Int)) = True := by simp
    have h4 := wrN pre.length (by rw [hxs] at hx; simp at hx; omega)
    have hg : ((pre.map spWrites).map eWr ++ (a :: suf).map eWr)[pre.length]? = some (eWr a) := by simp
    have hset : ∀ x, ((pre.map spWrites).map eWr ++ (a :: suf).map eWr).set pre.length x = (pre.map spWrites).map eWr ++ x :: suf.map eWr := by intro x; simp [List.set_append]
    have ih := l_spoilWrites i k xs hx q Q suf (pre ++ [a]) kk (by simp [hxs]) (by simpa using hk)
    simp only [append_len1, List.map_append, List.map_cons, List.map_nil, List.append_assoc, List.cons_append, List.nil_append, eWr, spWrites] at ih
    simp only [eWr, List.map_cons] at hg hset ⊢
    rw [un_c (c88_1.eq_1)]
    simp +contextual -dsimp -implicitDefEqProofs (maxSteps := 5000000) only [h2, h3, h4, hg, hset, gLs, go_sem, simprocAttr]
    exact ih
theorem s_spoilWrites (i : Nat) (xs : List TWrite) (hx : xs.length ≤ BB) : pureOf (Lv ctx (i + 1)) 88 [.own 3 (xs.map eWr)] = some (.tup []) := by
  refine sp_of rfl (xs.length + 1) (by rfl) ?_
  delta c88
  have hl := fun q Q => l_spoilWrites i (xs.length + 1) xs hx q Q xs [] xs.length rfl (by omega)
  simp only [List.length_nil, Int.natCast_zero, List.map_nil, List.nil_append] at hl
  simp +contextual -dsimp -implicitDefEqProofs (maxSteps := 5000000) only [gLs, go_sem, simprocAttr]
  refine Eq.mpr (hl _ _) ?_
  simp +contextual -dsimp -implicitDefEqProofs (maxSteps := 5000000) only [go_sem, simprocAttr]


def spEvents (a : TEvent) : TEvent := { a with id := xorI a.id 90 }
theorem l_spoilEvents (i k : Nat) (xs : List TEvent) (hx : xs.length ≤ BB) (q : Out → St → Option Ans) (Q : V → Hp → Nat → Prop) : ∀ (suf pre : List TEvent) (kk : Nat), xs = pre ++ suf → suf.length < kk + 1 →
    Fin (evC ctx (Lv ctx i) (pureOf (Lv ctx i)) k c51_1 ⟨ofLive [0, 2] [.sl 0, iV pre.length], pO emptyHp 0 (some ⟨4, (pre.map spEvents).map eE ++ suf.map eE, false⟩), 1⟩ (restK [0, 2] fun o s => thenK (evLoop 1 [0, 2] (fun s q => evC ctx (Lv ctx i) (pureOf (Lv ctx i)) k c51_1 s (restK [0, 2] q)) q kk) q o s)) Q =
    Fin (q (.exit 0) ⟨ofLive [] [], pO emptyHp 0 (some ⟨4, (xs.map spEvents).map eE, false⟩), 1⟩) Q
  | [], pre, kk, hxs, hk => by
    have h1 : decide ((pre.length : Int) < (pre.length : Int)) = false := by simp
    have h2 : xs = pre := by simp [hxs]
    rw [un_c (c51_1.eq_1)]
    simp only [List.map_nil, List.append_nil]
    rw [h2]
    simp +contextual -dsimp -implicitDefEqProofs (maxSteps := 5000000) only [h1, List.length_map, go_sem, simprocAttr]
  | a :: suf, pre, kk, hxs, hk => by
    obtain ⟨kk, rfl⟩ : ∃ m, kk = m + 1 := ⟨kk - 1, by simp at hk; omega⟩
    have h2 : ((pre.length : Int) < ((pre.length + (suf.length + 1) : Nat) : Int)) = True := by simp; omega
    have h3 : (0 ≤ (pre.length : Int)) = True := by simp
    have h4 := wrN pre.length (by rw [hxs] at hx; simp at hx; omega)
    have hg : ((pre.map spEvents).map eE ++ (a :: suf).map eE)[pre.length]? = some (eE a) := by simp
    have hset : ∀ x, ((pre.map spEvents).map eE ++ (a :: suf).map eE).set pre.length x = (pre.map spEvents).map eE ++ x :: suf.map eE := by intro x; simp [List.set_append]
    have ih := l_spoilEvents i k xs hx q Q suf (pre ++ [a]) kk (by simp [hxs]) (by simpa using hk)
    simp only [append_len1, List.map_append, List.map_cons, List.map_nil, List.append_assoc, List.cons_append, List.nil_append, eE, spEvents] at ih
    simp only [eE, List.map_cons] at hg hset ⊢
    rw [un_c (c51_1.eq_1)]
    simp +contextual -dsimp -implicitDefEqProofs (maxSteps := 5000000) only [h2, h3, h4, hg, hset, gLs, go_sem, simprocAttr]
    exact ih
theorem s_spoilEvents (i : Nat) (xs : List TEvent) (hx : xs.length ≤ BB) : pureOf (Lv ctx (i + 1)) 51 [.own 4 (xs.map eE)] = some (.tup []) := by
  refine sp_of rfl (xs.length + 1) (by rfl) ?_
  delta c51
  have hl := fun q Q => l_spoilEvents i (xs.length + 1) xs hx q Q xs [] xs.length rfl (by omega)
  simp only [List.length_nil, Int.natCast_zero, List.map_nil, List.nil_append] at hl
  simp +contextual -dsimp -implicitDefEqProofs (maxSteps := 5000000) only [gLs, go_sem, simprocAttr]
  refine Eq.mpr (hl _ _) ?_
  simp +contextual -dsimp -implicitDefEqProofs (maxSteps := 5000000) only [go_sem, simprocAttr]


theorem s_spoilArena (i : Nat) (a : A4 (List TWord)) (h0 : a.a0.length ≤ BB) (h1 : a.a1.length ≤ BB) (h2 : a.a2.length ≤ BB) (h3 : a.a3.length ≤ BB) : pureOf (Lv ctx (i + 2)) 49 [.agg [oWs a.a0, oWs a.a1, oWs a.a2, oWs a.a3]] = some (.tup []) := by
  have e0 := s_spoilWords i a.a0 h0
  have e1 := s_spoilWords i a.a1 h1
  have e2 := s_spoilWords i a.a2 h2
  have e3 := s_spoilWords i a.a3 h3
  refine sp_of rfl 5 (by rfl) ?_
  delta c49
  simp +contextual -dsimp -implicitDefEqProofs (maxSteps := 5000000) only [gLs, ↓un_c (c49_1.eq_1), e0, e1, e2, e3, go_sem, simprocAttr]
theorem s_spoilSession (i : Nat) (s : TSess) (hs : SmS s) : pureOf (Lv ctx (i + 2)) 50 [oS s] = some (.tup []) := by
  have e0 := s_spoilInsts i s.prog hs.p
  have e1 := s_spoilReads i s.reads hs.r
  have e2 := s_spoilWrites i s.writes hs.w
  simp only [oS]
  refine sp_of rfl 0 (by rfl) ?_
  delta c50
  simp +contextual -dsimp -implicitDefEqProofs (maxSteps := 5000000) only [e0, e1, e2, go_sem, simprocAttr]
def deadS (s : TSess) : V := .agg [iV (xorI s.id 90), iV s.label, iV s.clear, .dead, iV s.step, iV s.pc, iV s.regs.a0, iV s.regs.a1, iV s.regs.a2, iV s.regs.a3, .dead, .dead, iV s.at_, iV s.stamp, iV s.tries, iV s.result, iV s.told]
theorem cl_dead (thr d : Nat) : close thr (d + 1) .dead = .ret (.dead, []) := (rfl)
theorem am_dead (thr d : Nat) (l : List TSess) : amMap (close thr (d + 2)) (l.map deadS) = .ret ((l.map deadS).map vn) := am_cl _ _ _ (fun x => by simp only [deadS, cl_agg, am_cons, am_nil, cl_lit, cl_dead, bind_ret, List.map_cons, List.map_nil, List.flatten_cons, List.flatten_nil, List.append_nil, List.nil_append]) l
theorem oC_dead (n : Nat) (r : List V) : openCells n (.dead :: r) = (.dead :: (openCells n r).1, (openCells n r).2) := rfl
attribute [go_sem] cl_dead am_dead
abbrev hS (m : TMach) (els : List V) (d : Bool) : Hp :=
  pO (pO (pO (pO (pO (pO (pO emptyHp 0 none) 1 none) 2 none) 3 none) 4 (some ⟨17, els, d⟩)) 5 (some ⟨4, m.trace.map eE, false⟩)) 6 (some ⟨11, [.agg [.sl 0, .sl 1, .sl 2, .sl 3, iV m.clocks.a0, iV m.clocks.a1, iV m.clocks.a2, iV m.clocks.a3, iV m.ceil, .sl 4, .sl 5]], true⟩)
theorem l_spoilM (i k : Nat) (m : TMach) (hm : SmM m) (q : Out → St → Option Ans) (Q : V → Hp → Nat → Prop) : ∀ (suf pre : List TSess) (kk : Nat) (d : Bool), m.sess = pre ++ suf → suf.length < kk + 1 →
    Fin (evC ctx (Lv ctx (i + 2)) (pureOf (Lv ctx (i + 2))) k c20_1 ⟨ofLive [1, 2] [.ptr 6 0 0, iV pre.length], hS m (pre.map deadS ++ suf.map oS) d, 7⟩ (restK [1, 2] fun o s => thenK (evLoop 7 [1, 2] (fun s q => evC ctx (Lv ctx (i + 2)) (pureOf (Lv ctx (i + 2))) k c20_1 s (restK [1, 2] q)) q kk) q o s)) Q =
    Fin (q (.exit 0) ⟨ofLive [1] [.ptr 6 0 0], hS m (m.sess.map deadS) (if suf = [] then d else true), 7⟩) Q
  | [], pre, kk, d, hxs, hk => by
    have h1 : decide ((pre.length : Int) < (pre.length : Int)) = false := by simp
    have h2 : m.sess = pre := by simp [hxs]
    rw [un_c (c20_1.eq_1), if_pos rfl]
    simp only [List.map_nil, List.append_nil]
    simp +contextual -dsimp -implicitDefEqProofs (maxSteps := 5000000) only [h1, List.length_map, go_sem, simprocAttr]
    rw [h2]
  | a :: suf, pre, kk, d, hxs, hk => by
    obtain ⟨kk, rfl⟩ : ∃ m, kk = m + 1 := ⟨kk - 1, by simp at hk; omega⟩
    have h2 : ((pre.length : Int) < ((pre.length + (suf.length + 1) : Nat) : Int)) = True := by simp; omega
    have h3 : (0 ≤ (pre.length : Int)) = True := by simp
    have h4 := wrN pre.length (by have := hm.ss; rw [hxs] at this; simp at this; omega)
    have hg : (pre.map deadS ++ (a :: suf).map oS)[pre.length]? = some (oS a) := by simp
    have hset : ∀ x, (pre.map deadS ++ (a :: suf).map oS).set pre.length x = pre.map deadS ++ x :: suf.map oS := by intro x; simp [List.set_append]
    have hg' : ∀ x, (pre.map deadS ++ x :: suf.map oS)[pre.length]? = some x := by intro x; simp
    have hset' : ∀ x y, (pre.map deadS ++ x :: suf.map oS).set pre.length y = pre.map deadS ++ y :: suf.map oS := by intro x y; simp [List.set_append]
    have hs := s_spoilSession i a (hm.s a (by simp [hxs]))
    have ih := l_spoilM i k m hm q Q suf (pre ++ [a]) kk true (by simp [hxs]) (by simpa using hk)
    have hif : (if a :: suf = [] then d else true) = true := by simp
    simp only [append_len1, List.map_append, List.map_cons, List.map_nil, List.append_assoc, List.cons_append, List.nil_append, deadS, ite_self] at ih
    simp only [oS, List.map_cons] at hs hg hset ⊢
    rw [un_c (c20_1.eq_1), hif]
    cases d <;> simp +contextual -dsimp -implicitDefEqProofs (maxSteps := 5000000) only [h2, h3, h4, hg, hset, hg', hset', hs, gLs, go_sem, simprocAttr] <;> exact ih
theorem s_spoilM (i : Nat) (m : TMach) (hm : SmM m) : pureOf (Lv ctx (i + 3)) 20 [oM m] = some (.tup []) := by
  have e0 := s_spoilArena i m.words hm.w0 hm.w1 hm.w2 hm.w3
  have e1 := s_spoilEvents (i + 1) m.trace hm.tr
  refine sp_of rfl (m.sess.length + 1) (by rfl) ?_
  delta c20
  have hl := fun q Q d => l_spoilM i (m.sess.length + 1) m hm q Q m.sess [] m.sess.length d rfl (by omega)
  simp only [List.length_nil, Int.natCast_zero, List.map_nil, List.nil_append] at hl
  simp +contextual -dsimp -implicitDefEqProofs (maxSteps := 5000000) only [gLs, e0, go_sem, simprocAttr]
  refine Eq.mpr (hl _ _ false) ?_
  generalize (if m.sess = [] then false else true) = dd
  cases dd <;> simp +contextual -dsimp -implicitDefEqProofs (maxSteps := 5000000) only [e1, go_sem, simprocAttr]
end Ve

