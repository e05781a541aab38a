/- SameX. -/
import Derived.Test.YtapgmjgledahiaaGreatS2
set_option linter.all false
set_option linter.unusedSectionVars false
namespace Ve
open Go Ve.Ab
set_option maxHeartbeats 16000000
set_option maxRecDepth 10000
theorem sess_eq (a b : TSess) : a = b ↔ a.id = b.id ∧ a.label = b.label ∧ a.clear = b.clear ∧ a.prog = b.prog ∧ a.step = b.step ∧ a.pc = b.pc ∧ a.regs.a0 = b.regs.a0 ∧ a.regs.a1 = b.regs.a1 ∧ a.regs.a2 = b.regs.a2 ∧ a.regs.a3 = b.regs.a3 ∧ a.reads = b.reads ∧ a.writes = b.writes ∧ a.at_ = b.at_ ∧ a.stamp = b.stamp ∧ a.tries = b.tries ∧ a.result = b.result ∧ a.told = b.told := by
  rcases a with ⟨_, _, _, _, _, _, ⟨_, _, _, _⟩, _, _, _, _, _, _, _⟩
  rcases b with ⟨_, _, _, _, _, _, ⟨_, _, _, _⟩, _, _, _, _, _, _, _⟩
  simp [and_assoc]
def boolFin (b : Bool) (q : Out → St → Option Ans) (Q : V → Hp → Nat → Prop) (s1 s2 : St) : Prop :=
  match b with
  | true => Fin (q (.exit 0) s1) Q
  | false => Fin (q .ret s2) Q
theorem boolFin_t (q : Out → St → Option Ans) (Q : V → Hp → Nat → Prop) (s1 s2 : St) : boolFin true q Q s1 s2 = Fin (q (.exit 0) s1) Q := (rfl)
theorem boolFin_f (q : Out → St → Option Ans) (Q : V → Hp → Nat → Prop) (s1 s2 : St) : boolFin false q Q s1 s2 = Fin (q .ret s2) Q := (rfl)


theorem l_sameWords (i k : Nat) (pa na pb nb : Bool) (xs ys : List TWord) (hx : xs.length ≤ BB) (q : Out → St → Option Ans) (Q : V → Hp → Nat → Prop) (u : Dum (fun s q => evC ctx (Lv ctx i) (pureOf (Lv ctx i)) k c52_1 s (restK [0, 1, 5] q))) (w : Dum q) : ∀ (suf suf' pre pre' : List TWord) (kk : Nat), xs = pre ++ suf → ys = pre' ++ suf' → pre.length = pre'.length → suf.length = suf'.length → suf.length < kk →
    GL 0 [0, 1, 5] (fun s q => evC ctx (Lv ctx i) (pureOf (Lv ctx i)) k c52_1 s (restK [0, 1, 5] q)) q kk ⟨ofLive [0, 1, 5] [.isl pa na 3 (xs.map eW), .isl pb nb 3 (ys.map eW), iV pre.length], emptyHp, 0⟩ Q u w = boolFin (decide (suf = suf')) q Q ⟨ofLive [] [], emptyHp, 0⟩ ⟨ofLive [4] [bV false], emptyHp, 0⟩
  | [], suf', pre, pre', kk, hxs, hys, hpl, hsl, hk => by
    obtain ⟨kk, rfl⟩ : ∃ m, kk = m + 1 := ⟨kk - 1, by simp at hk; omega⟩
    obtain rfl : suf' = [] := by cases suf' <;> simp_all
    have h1 : decide ((pre.length : Int) < xs.length) = false := by simp [hxs]
    simp +contextual -dsimp -implicitDefEqProofs (maxSteps := 5000000) only [gLs, ↓un_c (c52_1.eq_1), h1, boolFin_t, go_sem, simprocAttr]
  | a :: suf, [], pre, pre', kk, hxs, hys, hpl, hsl, hk => by simp at hsl
  | a :: suf, b :: suf', pre, pre', kk, hxs, hys, hpl, hsl, hk => by
    obtain ⟨kk, rfl⟩ : ∃ m, kk = m + 1 := ⟨kk - 1, by simp at hk; omega⟩
    have hl : pre.length < xs.length := by simp [hxs]
    have hl' : pre.length < ys.length := by simp [hys, hpl]
    have h2 : ((pre.length : Int) < xs.length) = True := by simpa using hl
    have h2' : ((pre.length : Int) < ys.length) = True := by simpa using hl'
    have h3 : (0 ≤ (pre.length : Int)) = True := by simp
    have h4 := wrN pre.length (by omega)
    have hg : xs[pre.length]? = some a := by simp [hxs]
    have hg' : ys[pre.length]? = some b := by simp [hys, hpl]
    have ih := l_sameWords i k pa na pb nb xs ys hx q Q u w suf suf' (pre ++ [a]) (pre' ++ [b]) kk (by simp [hxs]) (by simp [hys]) (by simpa using hpl) (by simpa using hsl) (by simpa using hk)
    rw [append_len1] at ih
    by_cases hab : a = b
    · subst hab
      have hd : decide (a :: suf = a :: suf') = decide (suf = suf') := by simp
      rw [hd]
      simp +contextual -dsimp -implicitDefEqProofs (maxSteps := 5000000) only [gLs, ↓un_c (c52_1.eq_1), h2, h2', h3, h4, hg, hg', ih, go_sem, simprocAttr]
    · have hne : (decide (a.val = b.val) && (decide (a.ver = b.ver) && (decide (a.lock = b.lock)))) = false := by cases a; cases b; simp_all
      have hd : decide (a :: suf = b :: suf') = false := by simp [hab]
      rw [hd]
      simp +contextual -dsimp -implicitDefEqProofs (maxSteps := 5000000) only [gLs, ↓un_c (c52_1.eq_1), h2, h2', h3, h4, hg, hg', hne, boolFin_f, go_sem, simprocAttr]
theorem s_sameWords (i : Nat) (pa na pb nb : Bool) (xs ys : List TWord) (hx : xs.length ≤ BB) : pureOf (Lv ctx (i + 1)) 52 [.isl pa na 3 (xs.map eW), .isl pb nb 3 (ys.map eW)] = some (bV (decide (xs = ys))) := by
  refine sp_of rfl (xs.length + 1) (by rfl) ?_
  delta c52
  by_cases hl : xs.length = ys.length
  · have h1 : decide ((xs.length : Int) = ys.length) = true := by simp [hl]
    have h2 := fun q Q u w => l_sameWords i (xs.length + 1) pa na pb nb xs ys hx q Q u w xs ys [] [] (xs.length + 1) rfl rfl rfl hl (by omega)
    simp only [List.length_nil, Int.natCast_zero] at h2
    cases hb : decide (xs = ys) <;> rw [hb] at h2 <;> simp +contextual -dsimp -implicitDefEqProofs (maxSteps := 5000000) only [h1, h2, boolFin_t, boolFin_f, go_sem, simprocAttr]
  · have h1 : decide ((xs.length : Int) = ys.length) = false := by simpa using fun h : (xs.length : Int) = ys.length => hl (by omega)
    have h2 : decide (xs = ys) = false := by simpa using fun h : xs = ys => hl (by rw [h])
    simp +contextual -dsimp -implicitDefEqProofs (maxSteps := 5000000) only [h1, h2, go_sem, simprocAttr]


theorem l_sameInsts (i k : Nat) (pa na pb nb : Bool) (xs ys : List TInst) (hx : xs.length ≤ BB) (q : Out → St → Option Ans) (Q : V → Hp → Nat → Prop) (u : Dum (fun s q => evC ctx (Lv ctx i) (pureOf (Lv ctx i)) k c83_1 s (restK [0, 1, 5] q))) (w : Dum q) : ∀ (suf suf' pre pre' : List TInst) (kk : Nat), xs = pre ++ suf → ys = pre' ++ suf' → pre.length = pre'.length → suf.length = suf'.length → suf.length < kk →
    GL 0 [0, 1, 5] (fun s q => evC ctx (Lv ctx i) (pureOf (Lv ctx i)) k c83_1 s (restK [0, 1, 5] q)) q kk ⟨ofLive [0, 1, 5] [.isl pa na 4 (xs.map eI), .isl pb nb 4 (ys.map eI), iV pre.length], emptyHp, 0⟩ Q u w = boolFin (decide (suf = suf')) q Q ⟨ofLive [] [], emptyHp, 0⟩ ⟨ofLive [4] [bV false], emptyHp, 0⟩
  | [], suf', pre, pre', kk, hxs, hys, hpl, hsl, hk => by
    obtain ⟨kk, rfl⟩ : ∃ m, kk = m + 1 := ⟨kk - 1, by simp at hk; omega⟩
    obtain rfl : suf' = [] := by cases suf' <;> simp_all
    have h1 : decide ((pre.length : Int) < xs.length) = false := by simp [hxs]
    simp +contextual -dsimp -implicitDefEqProofs (maxSteps := 5000000) only [gLs, ↓un_c (c83_1.eq_1), h1, boolFin_t, go_sem, simprocAttr]
  | a :: suf, [], pre, pre', kk, hxs, hys, hpl, hsl, hk => by simp at hsl
  | a :: suf, b :: suf', pre, pre', kk, hxs, hys, hpl, hsl, hk => by
    obtain ⟨kk, rfl⟩ : ∃ m, kk = m + 1 := ⟨kk - 1, by simp at hk; omega⟩
    have hl : pre.length < xs.length := by simp [hxs]
    have hl' : pre.length < ys.length := by simp [hys, hpl]
    have h2 : ((pre.length : Int) < xs.length) = True := by simpa using hl
    have h2' : ((pre.length : Int) < ys.length) = True := by simpa using hl'
    have h3 : (0 ≤ (pre.length : Int)) = True := by simp
    have h4 := wrN pre.length (by omega)
    have hg : xs[pre.length]? = some a := by simp [hxs]
    have hg' : ys[pre.length]? = some b := by simp [hys, hpl]
    have ih := l_sameInsts i k pa na pb nb xs ys hx q Q u w suf suf' (pre ++ [a]) (pre' ++ [b]) kk (by simp [hxs]) (by simp [hys]) (by simpa using hpl) (by simpa using hsl) (by simpa using hk)
    rw [append_len1] at ih
    by_cases hab : a = b
    · subst hab
      have hd : decide (a :: suf = a :: suf') = decide (suf = suf') := by simp
      rw [hd]
      simp +contextual -dsimp -implicitDefEqProofs (maxSteps := 5000000) only [gLs, ↓un_c (c83_1.eq_1), h2, h2', h3, h4, hg, hg', ih, go_sem, simprocAttr]
    · have hne : (decide (a.code = b.code) && (decide (a.a = b.a) && (decide (a.b = b.b) && (decide (a.c = b.c))))) = false := by cases a; cases b; simp_all
      have hd : decide (a :: suf = b :: suf') = false := by simp [hab]
      rw [hd]
      simp +contextual -dsimp -implicitDefEqProofs (maxSteps := 5000000) only [gLs, ↓un_c (c83_1.eq_1), h2, h2', h3, h4, hg, hg', hne, boolFin_f, go_sem, simprocAttr]
theorem s_sameInsts (i : Nat) (pa na pb nb : Bool) (xs ys : List TInst) (hx : xs.length ≤ BB) : pureOf (Lv ctx (i + 1)) 83 [.isl pa na 4 (xs.map eI), .isl pb nb 4 (ys.map eI)] = some (bV (decide (xs = ys))) := by
  refine sp_of rfl (xs.length + 1) (by rfl) ?_
  delta c83
  by_cases hl : xs.length = ys.length
  · have h1 : decide ((xs.length : Int) = ys.length) = true := by simp [hl]
    have h2 := fun q Q u w => l_sameInsts i (xs.length + 1) pa na pb nb xs ys hx q Q u w xs ys [] [] (xs.length + 1) rfl rfl rfl hl (by omega)
    simp only [List.length_nil, Int.natCast_zero] at h2
    cases hb : decide (xs = ys) <;> rw [hb] at h2 <;> simp +contextual -dsimp -implicitDefEqProofs (maxSteps := 5000000) only [h1, h2, boolFin_t, boolFin_f, go_sem, simprocAttr]
  · have h1 : decide ((xs.length : Int) = ys.length) = false := by simpa using fun h : (xs.length : Int) = ys.length => hl (by omega)
    have h2 : decide (xs = ys) = false := by simpa using fun h : xs = ys => hl (by rw [h])
    simp +contextual -dsimp -implicitDefEqProofs (maxSteps := 5000000) only [h1, h2, go_sem, simprocAttr]


theorem l_sameReads (i k : Nat) (pa na pb nb : Bool) (xs ys : List TRead) (hx : xs.length ≤ BB) (q : Out → St → Option Ans) (Q : V → Hp → Nat → Prop) (u : Dum (fun s q => evC ctx (Lv ctx i) (pureOf (Lv ctx i)) k c22_1 s (restK [0, 1, 5] q))) (w : Dum q) : ∀ (suf suf' pre pre' : List TRead) (kk : Nat), xs = pre ++ suf → ys = pre' ++ suf' → pre.length = pre'.length → suf.length = suf'.length → suf.length < kk →
    GL 0 [0, 1, 5] (fun s q => evC ctx (Lv ctx i) (pureOf (Lv ctx i)) k c22_1 s (restK [0, 1, 5] q)) q kk ⟨ofLive [0, 1, 5] [.isl pa na 3 (xs.map eR), .isl pb nb 3 (ys.map eR), iV pre.length], emptyHp, 0⟩ Q u w = boolFin (decide (suf = suf')) q Q ⟨ofLive [] [], emptyHp, 0⟩ ⟨ofLive [4] [bV false], emptyHp, 0⟩
  | [], suf', pre, pre', kk, hxs, hys, hpl, hsl, hk => by
    obtain ⟨kk, rfl⟩ : ∃ m, kk = m + 1 := ⟨kk - 1, by simp at hk; omega⟩
    obtain rfl : suf' = [] := by cases suf' <;> simp_all
    have h1 : decide ((pre.length : Int) < xs.length) = false := by simp [hxs]
    simp +contextual -dsimp -implicitDefEqProofs (maxSteps := 5000000) only [gLs, ↓un_c (c22_1.eq_1), h1, boolFin_t, go_sem, simprocAttr]
  | a :: suf, [], pre, pre', kk, hxs, hys, hpl, hsl, hk => by simp at hsl
  | a :: suf, b :: suf', pre, pre', kk, hxs, hys, hpl, hsl, hk => by
    obtain ⟨kk, rfl⟩ : ∃ m, kk = m + 1 := ⟨kk - 1, by simp at hk; omega⟩
    have hl : pre.length < xs.length := by simp [hxs]
    have hl' : pre.length < ys.length := by simp [hys, hpl]
    have h2 : ((pre.length : Int) < xs.length) = True := by simpa using hl
    have h2' : ((pre.length : Int) < ys.length) = True := by simpa using hl'
    have h3 : (0 ≤ (pre.length : Int)) = True := by simp
    have h4 := wrN pre.length (by omega)
    have hg : xs[pre.length]? = some a := by simp [hxs]
    have hg' : ys[pre.length]? = some b := by simp [hys, hpl]
    have ih := l_sameReads i k pa na pb nb xs ys hx q Q u w suf suf' (pre ++ [a]) (pre' ++ [b]) kk (by simp [hxs]) (by simp [hys]) (by simpa using hpl) (by simpa using hsl) (by simpa using hk)
    rw [append_len1] at ih
    by_cases hab : a = b
    · subst hab
      have hd : decide (a :: suf = a :: suf') = decide (suf = suf') := by simp
      rw [hd]
      simp +contextual -dsimp -implicitDefEqProofs (maxSteps := 5000000) only [gLs, ↓un_c (c22_1.eq_1), h2, h2', h3, h4, hg, hg', ih, go_sem, simprocAttr]
    · have hne : (decide (a.level = b.level) && (decide (a.index = b.index) && (decide (a.ver = b.ver)))) = false := by cases a; cases b; simp_all
      have hd : decide (a :: suf = b :: suf') = false := by simp [hab]
      rw [hd]
      simp +contextual -dsimp -implicitDefEqProofs (maxSteps := 5000000) only [gLs, ↓un_c (c22_1.eq_1), h2, h2', h3, h4, hg, hg', hne, boolFin_f, go_sem, simprocAttr]
theorem s_sameReads (i : Nat) (pa na pb nb : Bool) (xs ys : List TRead) (hx : xs.length ≤ BB) : pureOf (Lv ctx (i + 1)) 22 [.isl pa na 3 (xs.map eR), .isl pb nb 3 (ys.map eR)] = some (bV (decide (xs = ys))) := by
  refine sp_of rfl (xs.length + 1) (by rfl) ?_
  delta c22
  by_cases hl : xs.length = ys.length
  · have h1 : decide ((xs.length : Int) = ys.length) = true := by simp [hl]
    have h2 := fun q Q u w => l_sameReads i (xs.length + 1) pa na pb nb xs ys hx q Q u w xs ys [] [] (xs.length + 1) rfl rfl rfl hl (by omega)
    simp only [List.length_nil, Int.natCast_zero] at h2
    cases hb : decide (xs = ys) <;> rw [hb] at h2 <;> simp +contextual -dsimp -implicitDefEqProofs (maxSteps := 5000000) only [h1, h2, boolFin_t, boolFin_f, go_sem, simprocAttr]
  · have h1 : decide ((xs.length : Int) = ys.length) = false := by simpa using fun h : (xs.length : Int) = ys.length => hl (by omega)
    have h2 : decide (xs = ys) = false := by simpa using fun h : xs = ys => hl (by rw [h])
    simp +contextual -dsimp -implicitDefEqProofs (maxSteps := 5000000) only [h1, h2, go_sem, simprocAttr]


theorem l_sameWrites (i k : Nat) (pa na pb nb : Bool) (xs ys : List TWrite) (hx : xs.length ≤ BB) (q : Out → St → Option Ans) (Q : V → Hp → Nat → Prop) (u : Dum (fun s q => evC ctx (Lv ctx i) (pureOf (Lv ctx i)) k c84_1 s (restK [0, 1, 5] q))) (w : Dum q) : ∀ (suf suf' pre pre' : List TWrite) (kk : Nat), xs = pre ++ suf → ys = pre' ++ suf' → pre.length = pre'.length → suf.length = suf'.length → suf.length < kk →
    GL 0 [0, 1, 5] (fun s q => evC ctx (Lv ctx i) (pureOf (Lv ctx i)) k c84_1 s (restK [0, 1, 5] q)) q kk ⟨ofLive [0, 1, 5] [.isl pa na 3 (xs.map eWr), .isl pb nb 3 (ys.map eWr), iV pre.length], emptyHp, 0⟩ Q u w = boolFin (decide (suf = suf')) q Q ⟨ofLive [] [], emptyHp, 0⟩ ⟨ofLive [4] [bV false], emptyHp, 0⟩
  | [], suf', pre, pre', kk, hxs, hys, hpl, hsl, hk => by
    obtain ⟨kk, rfl⟩ : ∃ m, kk = m + 1 := ⟨kk - 1, by simp at hk; omega⟩
    obtain rfl : suf' = [] := by cases suf' <;> simp_all
    have h1 : decide ((pre.length : Int) < xs.length) = false := by simp [hxs]
    simp +contextual -dsimp -implicitDefEqProofs (maxSteps := 5000000) only [gLs, ↓un_c (c84_1.eq_1), h1, boolFin_t, go_sem, simprocAttr]
  | a :: suf, [], pre, pre', kk, hxs, hys, hpl, hsl, hk => by simp at hsl
  | a :: suf, b :: suf', pre, pre', kk, hxs, hys, hpl, hsl, hk => by
    obtain ⟨kk, rfl⟩ : ∃ m, kk = m + 1 := ⟨kk - 1, by simp at hk; omega⟩
    have hl : pre.length < xs.length := by simp [hxs]
    have hl' : pre.length < ys.length := by simp [hys, hpl]
    have h2 : ((pre.length : Int) < xs.length) = True := by simpa using hl
    have h2' : ((pre.length : Int) < ys.length) = True := by simpa using hl'
    have h3 : (0 ≤ (pre.length : Int)) = True := by simp
    have h4 := wrN pre.length (by omega)
    have hg : xs[pre.length]? = some a := by simp [hxs]
    have hg' : ys[pre.length]? = some b := by simp [hys, hpl]
    have ih := l_sameWrites i k pa na pb nb xs ys hx q Q u w suf suf' (pre ++ [a]) (pre' ++ [b]) kk (by simp [hxs]) (by simp [hys]) (by simpa using hpl) (by simpa using hsl) (by simpa using hk)
    rw [append_len1] at ih
    by_cases hab : a = b
    · subst hab
      have hd : decide (a :: suf = a :: suf') = decide (suf = suf') := by simp
      rw [hd]
      simp +contextual -dsimp -implicitDefEqProofs (maxSteps := 5000000) only [gLs, ↓un_c (c84_1.eq_1), h2, h2', h3, h4, hg, hg', ih, go_sem, simprocAttr]
    · have hne : (decide (a.level = b.level) && (decide (a.index = b.index) && (decide (a.val = b.val)))) = false := by cases a; cases b; simp_all
      have hd : decide (a :: suf = b :: suf') = false := by simp [hab]
      rw [hd]
      simp +contextual -dsimp -implicitDefEqProofs (maxSteps := 5000000) only [gLs, ↓un_c (c84_1.eq_1), h2, h2', h3, h4, hg, hg', hne, boolFin_f, go_sem, simprocAttr]
theorem s_sameWrites (i : Nat) (pa na pb nb : Bool) (xs ys : List TWrite) (hx : xs.length ≤ BB) : pureOf (Lv ctx (i + 1)) 84 [.isl pa na 3 (xs.map eWr), .isl pb nb 3 (ys.map eWr)] = some (bV (decide (xs = ys))) := by
  refine sp_of rfl (xs.length + 1) (by rfl) ?_
  delta c84
  by_cases hl : xs.length = ys.length
  · have h1 : decide ((xs.length : Int) = ys.length) = true := by simp [hl]
    have h2 := fun q Q u w => l_sameWrites i (xs.length + 1) pa na pb nb xs ys hx q Q u w xs ys [] [] (xs.length + 1) rfl rfl rfl hl (by omega)
    simp only [List.length_nil, Int.natCast_zero] at h2
    cases hb : decide (xs = ys) <;> rw [hb] at h2 <;> simp +contextual -dsimp -implicitDefEqProofs (maxSteps := 5000000) only [h1, h2, boolFin_t, boolFin_f, go_sem, simprocAttr]
  · have h1 : decide ((xs.length : Int) = ys.length) = false := by simpa using fun h : (xs.length : Int) = ys.length => hl (by omega)
    have h2 : decide (xs = ys) = false := by simpa using fun h : xs = ys => hl (by rw [h])
    simp +contextual -dsimp -implicitDefEqProofs (maxSteps := 5000000) only [h1, h2, go_sem, simprocAttr]


theorem l_sameEvents (i k : Nat) (pa na pb nb : Bool) (xs ys : List TEvent) (hx : xs.length ≤ BB) (q : Out → St → Option Ans) (Q : V → Hp → Nat → Prop) (u : Dum (fun s q => evC ctx (Lv ctx i) (pureOf (Lv ctx i)) k c34_1 s (restK [0, 1, 5] q))) (w : Dum q) : ∀ (suf suf' pre pre' : List TEvent) (kk : Nat), xs = pre ++ suf → ys = pre' ++ suf' → pre.length = pre'.length → suf.length = suf'.length → suf.length < kk →
    GL 0 [0, 1, 5] (fun s q => evC ctx (Lv ctx i) (pureOf (Lv ctx i)) k c34_1 s (restK [0, 1, 5] q)) q kk ⟨ofLive [0, 1, 5] [.isl pa na 4 (xs.map eE), .isl pb nb 4 (ys.map eE), iV pre.length], emptyHp, 0⟩ Q u w = boolFin (decide (suf = suf')) q Q ⟨ofLive [] [], emptyHp, 0⟩ ⟨ofLive [4] [bV false], emptyHp, 0⟩
  | [], suf', pre, pre', kk, hxs, hys, hpl, hsl, hk => by
    obtain ⟨kk, rfl⟩ : ∃ m, kk = m + 1 := ⟨kk - 1, by simp at hk; omega⟩
    obtain rfl : suf' = [] := by cases suf' <;> simp_all
    have h1 : decide ((pre.length : Int) < xs.length) = false := by simp [hxs]
    simp +contextual -dsimp -implicitDefEqProofs (maxSteps := 5000000) only [gLs, ↓un_c (c34_1.eq_1), h1, boolFin_t, go_sem, simprocAttr]
  | a :: suf, [], pre, pre', kk, hxs, hys, hpl, hsl, hk => by simp at hsl
  | a :: suf, b :: suf', pre, pre', kk, hxs, hys, hpl, hsl, hk => by
    obtain ⟨kk, rfl⟩ : ∃ m, kk = m + 1 := ⟨kk - 1, by simp at hk; omega⟩
    have hl : pre.length < xs.length := by simp [hxs]
    have hl' : pre.length < ys.length := by simp [hys, hpl]
    have h2 : ((pre.length : Int) < xs.length) = True := by simpa using hl
    have h2' : ((pre.length : Int) < ys.length) = True := by simpa using hl'
    have h3 : (0 ≤ (pre.length : Int)) = True := by simp
    have h4 := wrN pre.length (by omega)
    have hg : xs[pre.length]? = some a := by simp [hxs]
    have hg' : ys[pre.length]? = some b := by simp [hys, hpl]
    have ih := l_sameEvents i k pa na pb nb xs ys hx q Q u w suf suf' (pre ++ [a]) (pre' ++ [b]) kk (by simp [hxs]) (by simp [hys]) (by simpa using hpl) (by simpa using hsl) (by simpa using hk)
    rw [append_len1] at ih
    by_cases hab : a = b
    · subst hab
      have hd : decide (a :: suf = a :: suf') = decide (suf = suf') := by simp
      rw [hd]
      simp +contextual -dsimp -implicitDefEqProofs (maxSteps := 5000000) only [gLs, ↓un_c (c34_1.eq_1), h2, h2', h3, h4, hg, hg', ih, go_sem, simprocAttr]
    · have hne : (decide (a.id = b.id) && (decide (a.label = b.label) && (decide (a.kind = b.kind) && (decide (a.val = b.val))))) = false := by cases a; cases b; simp_all
      have hd : decide (a :: suf = b :: suf') = false := by simp [hab]
      rw [hd]
      simp +contextual -dsimp -implicitDefEqProofs (maxSteps := 5000000) only [gLs, ↓un_c (c34_1.eq_1), h2, h2', h3, h4, hg, hg', hne, boolFin_f, go_sem, simprocAttr]
theorem s_sameEvents (i : Nat) (pa na pb nb : Bool) (xs ys : List TEvent) (hx : xs.length ≤ BB) : pureOf (Lv ctx (i + 1)) 34 [.isl pa na 4 (xs.map eE), .isl pb nb 4 (ys.map eE)] = some (bV (decide (xs = ys))) := by
  refine sp_of rfl (xs.length + 1) (by rfl) ?_
  delta c34
  by_cases hl : xs.length = ys.length
  · have h1 : decide ((xs.length : Int) = ys.length) = true := by simp [hl]
    have h2 := fun q Q u w => l_sameEvents i (xs.length + 1) pa na pb nb xs ys hx q Q u w xs ys [] [] (xs.length + 1) rfl rfl rfl hl (by omega)
    simp only [List.length_nil, Int.natCast_zero] at h2
    cases hb : decide (xs = ys) <;> rw [hb] at h2 <;> simp +contextual -dsimp -implicitDefEqProofs (maxSteps := 5000000) only [h1, h2, boolFin_t, boolFin_f, go_sem, simprocAttr]
  · have h1 : decide ((xs.length : Int) = ys.length) = false := by simpa using fun h : (xs.length : Int) = ys.length => hl (by omega)
    have h2 : decide (xs = ys) = false := by simpa using fun h : xs = ys => hl (by rw [h])
    simp +contextual -dsimp -implicitDefEqProofs (maxSteps := 5000000) only [h1, h2, go_sem, simprocAttr]


theorem s_sameSession (i : Nat) (pa pb : Bool) (a b : TSess) (h1 : a.prog.length ≤ BB) (h2 : a.reads.length ≤ BB) (h3 : a.writes.length ≤ BB) : pureOf (Lv ctx (i + 2)) 48 [eS pa a, eS pb b] = some (bV (decide (a = b))) := by
  have e1 := s_sameInsts i pa false pb false a.prog b.prog h1
  have e2 := s_sameReads i pa false pb false a.reads b.reads h2
  have e3 := s_sameWrites i pa false pb false a.writes b.writes h3
  simp only [eS]
  refine sp_of rfl 0 (by rfl) ?_
  delta c48
  simp +contextual -dsimp -implicitDefEqProofs (maxSteps := 5000000) only [e1, e2, e3, go_sem, simprocAttr]
  congr 2
  rw [Bool.eq_iff_iff]
  simp only [Bool.and_eq_true, decide_eq_true_eq, sess_eq, and_assoc]
end Ve
