/- What may be: the reference's, on. -/
import Derived.Test.YtapgmjgledahiaaGreatS12
set_option linter.all false
set_option linter.unusedSectionVars false
namespace Ve
open Go Ve.Ab
set_option maxHeartbeats 16000000
set_option maxRecDepth 10000
def rowGo : Nat → List TWord → Bool
  | _, [] => true
  | j, a :: r => decide (j < 4) && wordMay a && rowGo (j + 1) r
theorem rowGo_eq : ∀ (r : List TWord) (j : Nat), j ≤ 4 → rowGo j r = (decide (j + r.length ≤ 4) && r.all wordMay)
  | [], j, h => by simp [rowGo, h]
  | a :: r, j, h => by
    simp only [rowGo, List.all_cons, List.length_cons]
    by_cases hj : j < 4
    · rw [rowGo_eq r (j + 1) (by omega)]
      have : decide (j + 1 + r.length ≤ 4) = decide (j + (r.length + 1) ≤ 4) := by apply decide_eq_decide.mpr; omega
      simp only [hj, decide_true, Bool.true_and, this]
      cases wordMay a <;> simp
    · have : decide (j + (r.length + 1) ≤ 4) = false := by simp; omega
      simp [hj, this]
theorem rowGo_may (ws : List TWord) : rowGo 0 ws = rowMay ws := by rw [rowGo_eq ws 0 (by omega), rowMay]; simp


theorem lr_arena0 (i k : Nat) (pa b c d na nb nc nd : Bool) (w0 w1 w2 w3 : List TWord) (hx : w0.length ≤ BB) (q : Out → St → Option Ans) (Q : V → Hp → Nat → Prop) (u : Dum (fun s q => evC ctx (Lv ctx (i + 3)) (pureOf (Lv ctx (i + 3))) k c53_1 s (restK [1, 3, 4] q))) (w : Dum q) : ∀ (suf pre : List TWord) (kk : Nat), w0 = pre ++ suf → suf.length < kk →
    GL 0 [1, 3, 4] (fun s q => evC ctx (Lv ctx (i + 3)) (pureOf (Lv ctx (i + 3))) k c53_1 s (restK [1, 3, 4] q)) q kk ⟨ofLive [1, 3, 4] [.ip (pa && (b && (c && d))) [.isl pa na 3 (w0.map eW), .isl b nb 3 (w1.map eW), .isl c nc 3 (w2.map eW), .isl d nd 3 (w3.map eW)] 0, iV 0, iV pre.length], emptyHp, 0⟩ Q u w = boolP (rowGo pre.length suf) (Fin (q (.exit 2) ⟨ofLive [1, 3] [.ip (pa && (b && (c && d))) [.isl pa na 3 (w0.map eW), .isl b nb 3 (w1.map eW), .isl c nc 3 (w2.map eW), .isl d nd 3 (w3.map eW)] 0, iV 0], emptyHp, 0⟩) Q) (Fin (q .ret ⟨ofLive [2] [bV false], emptyHp, 0⟩) Q)
  | [], pre, kk, hxs, hk => by
    obtain ⟨kk, rfl⟩ : ∃ m, kk = m + 1 := ⟨kk - 1, by simp at hk; omega⟩
    have h1 : decide ((pre.length : Int) < w0.length) = false := by simp [hxs]
    simp +contextual -dsimp -implicitDefEqProofs (maxSteps := 5000000) only [gLs, ↓un_c (c53_1.eq_1), h1, boolP_t, rowGo, go_sem, simprocAttr]
  | a :: suf, pre, kk, hxs, hk => by
    obtain ⟨kk, rfl⟩ : ∃ m, kk = m + 1 := ⟨kk - 1, by simp at hk; omega⟩
    have hl : pre.length < w0.length := by simp [hxs]
    have h2 : ((pre.length : Int) < w0.length) = True := by simpa using hl
    have h3 : (0 ≤ (pre.length : Int)) = True := by simp
    have h4 := wrN pre.length (by omega)
    have hg : w0[pre.length]? = some a := by simp [hxs]
    have ih := lr_arena0 i k pa b c d na nb nc nd w0 w1 w2 w3 hx q Q u w suf (pre ++ [a]) kk (by simp [hxs]) (by simpa using hk)
    rw [append_len1] at ih
    simp only [rowGo]
    by_cases hj : pre.length < 4
    · have h5 : decide ((4 : Int) ≤ (pre.length : Int)) = false := by simp; omega
      have h6 : decide (pre.length < 4) = true := by simpa using hj
      cases hb : wordMay a
      · rw [h6, Bool.true_and, Bool.false_and]
        simp +contextual -dsimp -implicitDefEqProofs (maxSteps := 5000000) only [gLs, ↓un_c (c53_1.eq_1), h2, h3, h4, h5, hg, hb, boolP_f, go_sem, simprocAttr]
      · rw [h6, Bool.true_and, Bool.true_and]
        simp +contextual -dsimp -implicitDefEqProofs (maxSteps := 5000000) only [gLs, ↓un_c (c53_1.eq_1), h2, h3, h4, h5, hg, hb, ih, go_sem, simprocAttr]
    · have h5 : decide ((4 : Int) ≤ (pre.length : Int)) = true := by simp; omega
      have h6 : decide (pre.length < 4) = false := by simpa using hj
      rw [h6, Bool.false_and, Bool.false_and]
      simp +contextual -dsimp -implicitDefEqProofs (maxSteps := 5000000) only [gLs, ↓un_c (c53_1.eq_1), h2, h3, h4, h5, hg, boolP_f, go_sem, simprocAttr]


theorem lr_arena1 (i k : Nat) (pa b c d na nb nc nd : Bool) (w0 w1 w2 w3 : List TWord) (hx : w1.length ≤ BB) (q : Out → St → Option Ans) (Q : V → Hp → Nat → Prop) (u : Dum (fun s q => evC ctx (Lv ctx (i + 3)) (pureOf (Lv ctx (i + 3))) k c53_1 s (restK [1, 3, 4] q))) (w : Dum q) : ∀ (suf pre : List TWord) (kk : Nat), w1 = pre ++ suf → suf.length < kk →
    GL 0 [1, 3, 4] (fun s q => evC ctx (Lv ctx (i + 3)) (pureOf (Lv ctx (i + 3))) k c53_1 s (restK [1, 3, 4] q)) q kk ⟨ofLive [1, 3, 4] [.ip (pa && (b && (c && d))) [.isl pa na 3 (w0.map eW), .isl b nb 3 (w1.map eW), .isl c nc 3 (w2.map eW), .isl d nd 3 (w3.map eW)] 0, iV 1, iV pre.length], emptyHp, 0⟩ Q u w = boolP (rowGo pre.length suf) (Fin (q (.exit 2) ⟨ofLive [1, 3] [.ip (pa && (b && (c && d))) [.isl pa na 3 (w0.map eW), .isl b nb 3 (w1.map eW), .isl c nc 3 (w2.map eW), .isl d nd 3 (w3.map eW)] 0, iV 1], emptyHp, 0⟩) Q) (Fin (q .ret ⟨ofLive [2] [bV false], emptyHp, 0⟩) Q)
  | [], pre, kk, hxs, hk => by
    obtain ⟨kk, rfl⟩ : ∃ m, kk = m + 1 := ⟨kk - 1, by simp at hk; omega⟩
    have h1 : decide ((pre.length : Int) < w1.length) = false := by simp [hxs]
    simp +contextual -dsimp -implicitDefEqProofs (maxSteps := 5000000) only [gLs, ↓un_c (c53_1.eq_1), h1, boolP_t, rowGo, go_sem, simprocAttr]
  | a :: suf, pre, kk, hxs, hk => by
    obtain ⟨kk, rfl⟩ : ∃ m, kk = m + 1 := ⟨kk - 1, by simp at hk; omega⟩
    have hl : pre.length < w1.length := by simp [hxs]
    have h2 : ((pre.length : Int) < w1.length) = True := by simpa using hl
    have h3 : (0 ≤ (pre.length : Int)) = True := by simp
    have h4 := wrN pre.length (by omega)
    have hg : w1[pre.length]? = some a := by simp [hxs]
    have ih := lr_arena1 i k pa b c d na nb nc nd w0 w1 w2 w3 hx q Q u w suf (pre ++ [a]) kk (by simp [hxs]) (by simpa using hk)
    rw [append_len1] at ih
    simp only [rowGo]
    by_cases hj : pre.length < 4
    · have h5 : decide ((4 : Int) ≤ (pre.length : Int)) = false := by simp; omega
      have h6 : decide (pre.length < 4) = true := by simpa using hj
      cases hb : wordMay a
      · rw [h6, Bool.true_and, Bool.false_and]
        simp +contextual -dsimp -implicitDefEqProofs (maxSteps := 5000000) only [gLs, ↓un_c (c53_1.eq_1), h2, h3, h4, h5, hg, hb, boolP_f, go_sem, simprocAttr]
      · rw [h6, Bool.true_and, Bool.true_and]
        simp +contextual -dsimp -implicitDefEqProofs (maxSteps := 5000000) only [gLs, ↓un_c (c53_1.eq_1), h2, h3, h4, h5, hg, hb, ih, go_sem, simprocAttr]
    · have h5 : decide ((4 : Int) ≤ (pre.length : Int)) = true := by simp; omega
      have h6 : decide (pre.length < 4) = false := by simpa using hj
      rw [h6, Bool.false_and, Bool.false_and]
      simp +contextual -dsimp -implicitDefEqProofs (maxSteps := 5000000) only [gLs, ↓un_c (c53_1.eq_1), h2, h3, h4, h5, hg, boolP_f, go_sem, simprocAttr]


theorem lr_arena2 (i k : Nat) (pa b c d na nb nc nd : Bool) (w0 w1 w2 w3 : List TWord) (hx : w2.length ≤ BB) (q : Out → St → Option Ans) (Q : V → Hp → Nat → Prop) (u : Dum (fun s q => evC ctx (Lv ctx (i + 3)) (pureOf (Lv ctx (i + 3))) k c53_1 s (restK [1, 3, 4] q))) (w : Dum q) : ∀ (suf pre : List TWord) (kk : Nat), w2 = pre ++ suf → suf.length < kk →
    GL 0 [1, 3, 4] (fun s q => evC ctx (Lv ctx (i + 3)) (pureOf (Lv ctx (i + 3))) k c53_1 s (restK [1, 3, 4] q)) q kk ⟨ofLive [1, 3, 4] [.ip (pa && (b && (c && d))) [.isl pa na 3 (w0.map eW), .isl b nb 3 (w1.map eW), .isl c nc 3 (w2.map eW), .isl d nd 3 (w3.map eW)] 0, iV 2, iV pre.length], emptyHp, 0⟩ Q u w = boolP (rowGo pre.length suf) (Fin (q (.exit 2) ⟨ofLive [1, 3] [.ip (pa && (b && (c && d))) [.isl pa na 3 (w0.map eW), .isl b nb 3 (w1.map eW), .isl c nc 3 (w2.map eW), .isl d nd 3 (w3.map eW)] 0, iV 2], emptyHp, 0⟩) Q) (Fin (q .ret ⟨ofLive [2] [bV false], emptyHp, 0⟩) Q)
  | [], pre, kk, hxs, hk => by
    obtain ⟨kk, rfl⟩ : ∃ m, kk = m + 1 := ⟨kk - 1, by simp at hk; omega⟩
    have h1 : decide ((pre.length : Int) < w2.length) = false := by simp [hxs]
    simp +contextual -dsimp -implicitDefEqProofs (maxSteps := 5000000) only [gLs, ↓un_c (c53_1.eq_1), h1, boolP_t, rowGo, go_sem, simprocAttr]
  | a :: suf, pre, kk, hxs, hk => by
    obtain ⟨kk, rfl⟩ : ∃ m, kk = m + 1 := ⟨kk - 1, by simp at hk; omega⟩
    have hl : pre.length < w2.length := by simp [hxs]
    have h2 : ((pre.length : Int) < w2.length) = True := by simpa using hl
    have h3 : (0 ≤ (pre.length : Int)) = True := by simp
    have h4 := wrN pre.length (by omega)
    have hg : w2[pre.length]? = some a := by simp [hxs]
    have ih := lr_arena2 i k pa b c d na nb nc nd w0 w1 w2 w3 hx q Q u w suf (pre ++ [a]) kk (by simp [hxs]) (by simpa using hk)
    rw [append_len1] at ih
    simp only [rowGo]
    by_cases hj : pre.length < 4
    · have h5 : decide ((4 : Int) ≤ (pre.length : Int)) = false := by simp; omega
      have h6 : decide (pre.length < 4) = true := by simpa using hj
      cases hb : wordMay a
      · rw [h6, Bool.true_and, Bool.false_and]
        simp +contextual -dsimp -implicitDefEqProofs (maxSteps := 5000000) only [gLs, ↓un_c (c53_1.eq_1), h2, h3, h4, h5, hg, hb, boolP_f, go_sem, simprocAttr]
      · rw [h6, Bool.true_and, Bool.true_and]
        simp +contextual -dsimp -implicitDefEqProofs (maxSteps := 5000000) only [gLs, ↓un_c (c53_1.eq_1), h2, h3, h4, h5, hg, hb, ih, go_sem, simprocAttr]
    · have h5 : decide ((4 : Int) ≤ (pre.length : Int)) = true := by simp; omega
      have h6 : decide (pre.length < 4) = false := by simpa using hj
      rw [h6, Bool.false_and, Bool.false_and]
      simp +contextual -dsimp -implicitDefEqProofs (maxSteps := 5000000) only [gLs, ↓un_c (c53_1.eq_1), h2, h3, h4, h5, hg, boolP_f, go_sem, simprocAttr]


theorem lr_arena3 (i k : Nat) (pa b c d na nb nc nd : Bool) (w0 w1 w2 w3 : List TWord) (hx : w3.length ≤ BB) (q : Out → St → Option Ans) (Q : V → Hp → Nat → Prop) (u : Dum (fun s q => evC ctx (Lv ctx (i + 3)) (pureOf (Lv ctx (i + 3))) k c53_1 s (restK [1, 3, 4] q))) (w : Dum q) : ∀ (suf pre : List TWord) (kk : Nat), w3 = pre ++ suf → suf.length < kk →
    GL 0 [1, 3, 4] (fun s q => evC ctx (Lv ctx (i + 3)) (pureOf (Lv ctx (i + 3))) k c53_1 s (restK [1, 3, 4] q)) q kk ⟨ofLive [1, 3, 4] [.ip (pa && (b && (c && d))) [.isl pa na 3 (w0.map eW), .isl b nb 3 (w1.map eW), .isl c nc 3 (w2.map eW), .isl d nd 3 (w3.map eW)] 0, iV 3, iV pre.length], emptyHp, 0⟩ Q u w = boolP (rowGo pre.length suf) (Fin (q (.exit 2) ⟨ofLive [1, 3] [.ip (pa && (b && (c && d))) [.isl pa na 3 (w0.map eW), .isl b nb 3 (w1.map eW), .isl c nc 3 (w2.map eW), .isl d nd 3 (w3.map eW)] 0, iV 3], emptyHp, 0⟩) Q) (Fin (q .ret ⟨ofLive [2] [bV false], emptyHp, 0⟩) Q)
  | [], pre, kk, hxs, hk => by
    obtain ⟨kk, rfl⟩ : ∃ m, kk = m + 1 := ⟨kk - 1, by simp at hk; omega⟩
    have h1 : decide ((pre.length : Int) < w3.length) = false := by simp [hxs]
    simp +contextual -dsimp -implicitDefEqProofs (maxSteps := 5000000) only [gLs, ↓un_c (c53_1.eq_1), h1, boolP_t, rowGo, go_sem, simprocAttr]
  | a :: suf, pre, kk, hxs, hk => by
    obtain ⟨kk, rfl⟩ : ∃ m, kk = m + 1 := ⟨kk - 1, by simp at hk; omega⟩
    have hl : pre.length < w3.length := by simp [hxs]
    have h2 : ((pre.length : Int) < w3.length) = True := by simpa using hl
    have h3 : (0 ≤ (pre.length : Int)) = True := by simp
    have h4 := wrN pre.length (by omega)
    have hg : w3[pre.length]? = some a := by simp [hxs]
    have ih := lr_arena3 i k pa b c d na nb nc nd w0 w1 w2 w3 hx q Q u w suf (pre ++ [a]) kk (by simp [hxs]) (by simpa using hk)
    rw [append_len1] at ih
    simp only [rowGo]
    by_cases hj : pre.length < 4
    · have h5 : decide ((4 : Int) ≤ (pre.length : Int)) = false := by simp; omega
      have h6 : decide (pre.length < 4) = true := by simpa using hj
      cases hb : wordMay a
      · rw [h6, Bool.true_and, Bool.false_and]
        simp +contextual -dsimp -implicitDefEqProofs (maxSteps := 5000000) only [gLs, ↓un_c (c53_1.eq_1), h2, h3, h4, h5, hg, hb, boolP_f, go_sem, simprocAttr]
      · rw [h6, Bool.true_and, Bool.true_and]
        simp +contextual -dsimp -implicitDefEqProofs (maxSteps := 5000000) only [gLs, ↓un_c (c53_1.eq_1), h2, h3, h4, h5, hg, hb, ih, go_sem, simprocAttr]
    · have h5 : decide ((4 : Int) ≤ (pre.length : Int)) = true := by simp; omega
      have h6 : decide (pre.length < 4) = false := by simpa using hj
      rw [h6, Bool.false_and, Bool.false_and]
      simp +contextual -dsimp -implicitDefEqProofs (maxSteps := 5000000) only [gLs, ↓un_c (c53_1.eq_1), h2, h3, h4, h5, hg, boolP_f, go_sem, simprocAttr]


theorem r_arena (i : Nat) (a b c d na nb nc nd : Bool) (w0 w1 w2 w3 : List TWord) (h0 : w0.length ≤ BB) (h1 : w1.length ≤ BB) (h2 : w2.length ≤ BB) (h3 : w3.length ≤ BB) : pureOf (Lv ctx (i + 4)) 53 [.agg [.isl a na 3 (w0.map eW), .isl b nb 3 (w1.map eW), .isl c nc 3 (w2.map eW), .isl d nd 3 (w3.map eW)]] = some (bV (arenaMay ⟨w0, w1, w2, w3⟩)) := by
  refine sp_of rfl (w0.length + w1.length + w2.length + w3.length + 5) (by rfl) ?_
  delta c53
  have l0 := fun q Q u w => lr_arena0 i (w0.length + w1.length + w2.length + w3.length + 5) a b c d na nb nc nd w0 w1 w2 w3 h0 q Q u w w0 [] (w0.length + w1.length + w2.length + w3.length + 5) rfl (by omega)
  have l1 := fun q Q u w => lr_arena1 i (w0.length + w1.length + w2.length + w3.length + 5) a b c d na nb nc nd w0 w1 w2 w3 h1 q Q u w w1 [] (w0.length + w1.length + w2.length + w3.length + 5) rfl (by omega)
  have l2 := fun q Q u w => lr_arena2 i (w0.length + w1.length + w2.length + w3.length + 5) a b c d na nb nc nd w0 w1 w2 w3 h2 q Q u w w2 [] (w0.length + w1.length + w2.length + w3.length + 5) rfl (by omega)
  have l3 := fun q Q u w => lr_arena3 i (w0.length + w1.length + w2.length + w3.length + 5) a b c d na nb nc nd w0 w1 w2 w3 h3 q Q u w w3 [] (w0.length + w1.length + w2.length + w3.length + 5) rfl (by omega)
  simp only [List.length_nil, Int.natCast_zero, rowGo_may] at l0 l1 l2 l3
  have ho := fun q k s Q u w => gLs 0 [1, 3] (fun s q => evC ctx (Lv ctx (i + 3)) (pureOf (Lv ctx (i + 3))) (w0.length + w1.length + w2.length + w3.length + 5) c53_2 s (restK [1, 3] q)) q k s Q u w
  simp +contextual -dsimp -implicitDefEqProofs (maxSteps := 5000000) only [ho, ↓un_c (c53_2.eq_1), arenaMay, A4.all, go_sem, simprocAttr]
  refine Eq.mpr (l0 _ _ _ _) ?_
  cases r0 : rowMay w0
  · simp +contextual -dsimp -implicitDefEqProofs (maxSteps := 5000000) only [boolP_f, go_sem, simprocAttr]
  · simp +contextual -dsimp -implicitDefEqProofs (maxSteps := 5000000) only [boolP_t, ho, ↓un_c (c53_2.eq_1), go_sem, simprocAttr]
    refine Eq.mpr (l1 _ _ _ _) ?_
    cases r1 : rowMay w1
    · simp +contextual -dsimp -implicitDefEqProofs (maxSteps := 5000000) only [boolP_f, go_sem, simprocAttr]
    · simp +contextual -dsimp -implicitDefEqProofs (maxSteps := 5000000) only [boolP_t, ho, ↓un_c (c53_2.eq_1), go_sem, simprocAttr]
      refine Eq.mpr (l2 _ _ _ _) ?_
      cases r2 : rowMay w2
      · simp +contextual -dsimp -implicitDefEqProofs (maxSteps := 5000000) only [boolP_f, go_sem, simprocAttr]
      · simp +contextual -dsimp -implicitDefEqProofs (maxSteps := 5000000) only [boolP_t, ho, ↓un_c (c53_2.eq_1), go_sem, simprocAttr]
        refine Eq.mpr (l3 _ _ _ _) ?_
        cases r3 : rowMay w3
        · simp +contextual -dsimp -implicitDefEqProofs (maxSteps := 5000000) only [boolP_f, go_sem, simprocAttr]
        · simp +contextual -dsimp -implicitDefEqProofs (maxSteps := 5000000) only [boolP_t, ho, ↓un_c (c53_2.eq_1), go_sem, simprocAttr]


theorem lr_reads1 (i k : Nat) (pf nn : Bool) (xs : List TRead) (hx : xs.length ≤ BB) (pp : List TRead) (n : TRead) (tl : List TRead) (hxs0 : xs = pp ++ n :: tl) (q : Out → St → Option Ans) (Q : V → Hp → Nat → Prop) (u : Dum (fun s q => evC ctx (Lv ctx (i + 3)) (pureOf (Lv ctx (i + 3))) k c54_1 s (restK [0, 3, 4] q))) (w : Dum q) : ∀ (suf pre : List TRead) (kk : Nat), pp = pre ++ suf → suf.length < kk →
    GL 0 [0, 3, 4] (fun s q => evC ctx (Lv ctx (i + 3)) (pureOf (Lv ctx (i + 3))) k c54_1 s (restK [0, 3, 4] q)) q kk ⟨ofLive [0, 3, 4] [.isl pf nn 3 (xs.map eR), iV pp.length, iV pre.length], emptyHp, 0⟩ Q u w = boolP (!(suf.any (sameR n))) (Fin (q (.exit 2) ⟨ofLive [0, 3] [.isl pf nn 3 (xs.map eR), iV pp.length], emptyHp, 0⟩) Q) (Fin (q .ret ⟨ofLive [2] [bV false], emptyHp, 0⟩) Q)
  | [], pre, kk, hxs, hk => by
    obtain ⟨kk, rfl⟩ : ∃ m, kk = m + 1 := ⟨kk - 1, by simp at hk; omega⟩
    have h1 : decide ((pre.length : Int) < pp.length) = false := by simp [hxs]
    simp +contextual -dsimp -implicitDefEqProofs (maxSteps := 5000000) only [gLs, ↓un_c (c54_1.eq_1), h1, boolP_t, List.any_nil, go_sem, simprocAttr]
  | a :: suf, pre, kk, hxs, hk => by
    obtain ⟨kk, rfl⟩ : ∃ m, kk = m + 1 := ⟨kk - 1, by simp at hk; omega⟩
    have hl : pre.length < pp.length := by simp [hxs]
    have hl' : pp.length < xs.length := by simp [hxs0]
    have h2 : ((pre.length : Int) < pp.length) = True := by simpa using hl
    have h2' : ((pre.length : Int) < xs.length) = True := by simp; omega
    have h2n : ((pp.length : Int) < xs.length) = True := by simpa using hl'
    have h3 : (0 ≤ (pre.length : Int)) = True := by simp
    have h3' : (0 ≤ (pp.length : Int)) = True := by simp
    have h4 := wrN pre.length (by omega)
    have hg : xs[pre.length]? = some a := by simp [hxs0, hxs]
    have hg' : xs[pp.length]? = some n := by simp [hxs0]
    have ih := lr_reads1 i k pf nn xs hx pp n tl hxs0 q Q u w suf (pre ++ [a]) kk (by simp [hxs]) (by simpa using hk)
    rw [append_len1] at ih
    simp only [List.any_cons, sameR]
    cases c1 : decide (a.level = n.level)
    · simp +contextual -dsimp -implicitDefEqProofs (maxSteps := 5000000) only [gLs, ↓un_c (c54_1.eq_1), h2, h2', h2n, h3, h3', h4, hg, hg', c1, ih, go_sem, simprocAttr]
    · cases c2 : decide (a.index = n.index)
      · simp +contextual -dsimp -implicitDefEqProofs (maxSteps := 5000000) only [gLs, ↓un_c (c54_1.eq_1), h2, h2', h2n, h3, h3', h4, hg, hg', c1, c2, ih, go_sem, simprocAttr]
      · simp +contextual -dsimp -implicitDefEqProofs (maxSteps := 5000000) only [gLs, ↓un_c (c54_1.eq_1), h2, h2', h2n, h3, h3', h4, hg, hg', c1, c2, boolP_f, go_sem, simprocAttr]


theorem lr_reads2 (i k : Nat) (pf nn : Bool) (xs : List TRead) (hx : xs.length ≤ BB) (hkk : xs.length < k) (q : Out → St → Option Ans) (Q : V → Hp → Nat → Prop) (u : Dum (fun s q => evC ctx (Lv ctx (i + 3)) (pureOf (Lv ctx (i + 3))) k c54_2 s (restK [0, 3] q))) (w : Dum q) : ∀ (suf pre : List TRead) (kk : Nat), xs = pre ++ suf → suf.length < kk →
    GL 0 [0, 3] (fun s q => evC ctx (Lv ctx (i + 3)) (pureOf (Lv ctx (i + 3))) k c54_2 s (restK [0, 3] q)) q kk ⟨ofLive [0, 3] [.isl pf nn 3 (xs.map eR), iV pre.length], emptyHp, 0⟩ Q u w = boolP (readsGo pre suf) (Fin (q (.exit 0) ⟨ofLive [0] [.isl pf nn 3 (xs.map eR)], emptyHp, 0⟩) Q) (Fin (q .ret ⟨ofLive [2] [bV false], emptyHp, 0⟩) Q)
  | [], pre, kk, hxs, hk => by
    obtain ⟨kk, rfl⟩ : ∃ m, kk = m + 1 := ⟨kk - 1, by simp at hk; omega⟩
    have h1 : decide ((pre.length : Int) < xs.length) = false := by simp [hxs]
    simp +contextual -dsimp -implicitDefEqProofs (maxSteps := 5000000) only [gLs, ↓un_c (c54_2.eq_1), h1, boolP_t, readsGo, go_sem, simprocAttr]
  | a :: suf, pre, kk, hxs, hk => by
    obtain ⟨kk, rfl⟩ : ∃ m, kk = m + 1 := ⟨kk - 1, by simp at hk; omega⟩
    have hl : pre.length < xs.length := by simp [hxs]
    have h2 : ((pre.length : Int) < xs.length) = True := by simpa using hl
    have h3 : (0 ≤ (pre.length : Int)) = True := by simp
    have h4 := wrN pre.length (by omega)
    have hg : xs[pre.length]? = some a := by simp [hxs]
    have ih := lr_reads2 i k pf nn xs hx hkk q Q u w suf (pre ++ [a]) kk (by simp [hxs]) (by simpa using hk)
    rw [append_len1] at ih
    have h1 := fun q Q u w => lr_reads1 i k pf nn xs hx pre a suf hxs q Q u w pre [] k rfl (by omega)
    simp only [List.length_nil, Int.natCast_zero] at h1
    cases c1 : inR a.level 3
    · simp +contextual -dsimp -implicitDefEqProofs (maxSteps := 5000000) only [gLs, ↓un_c (c54_2.eq_1), h2, h3, h4, hg, boolP_f, readsGo, read1, c1, go_sem, simprocAttr]
    · cases c2 : inR a.index 3
      · simp +contextual -dsimp -implicitDefEqProofs (maxSteps := 5000000) only [gLs, ↓un_c (c54_2.eq_1), h2, h3, h4, hg, boolP_f, readsGo, read1, c1, c2, go_sem, simprocAttr]
      · cases c3 : inR a.ver 65535
        · simp +contextual -dsimp -implicitDefEqProofs (maxSteps := 5000000) only [gLs, ↓un_c (c54_2.eq_1), h2, h3, h4, hg, boolP_f, readsGo, read1, c1, c2, c3, go_sem, simprocAttr]
        · have hr : readsGo pre (a :: suf) = (!(pre.any (sameR a)) && readsGo (pre ++ [a]) suf) := by simp only [readsGo, read1, c1, c2, c3, Bool.true_and, Bool.and_self]
          rw [hr]
          cases c4 : pre.any (sameR a) <;> rw [c4] at h1 <;> simp +contextual -dsimp -implicitDefEqProofs (maxSteps := 5000000) only [gLs, ↓un_c (c54_2.eq_1), h2, h3, h4, hg, c1, c2, c3, h1, boolP_t, boolP_f, ih, go_sem, simprocAttr]
theorem r_reads (i : Nat) (pf nn : Bool) (xs : List TRead) (hx : xs.length ≤ BB) : pureOf (Lv ctx (i + 4)) 54 [.isl pf nn 3 (xs.map eR)] = some (bV (readsMay xs)) := by
  refine sp_of rfl (xs.length + 1) (by rfl) ?_
  delta c54
  have h2 := fun q Q u w => lr_reads2 i (xs.length + 1) pf nn xs hx (by omega) q Q u w xs [] (xs.length + 1) rfl (by omega)
  simp only [List.length_nil, Int.natCast_zero] at h2
  have h5 : decide ((xs.length : Int) ≤ 16) = decide (xs.length ≤ 16) := by apply decide_eq_decide.mpr; omega
  simp +contextual -dsimp -implicitDefEqProofs (maxSteps := 5000000) only [readsMay, h5, go_sem, simprocAttr]
  refine Eq.mpr (h2 _ _ _ _) ?_
  cases hb : readsGo [] xs <;> simp +contextual -dsimp -implicitDefEqProofs (maxSteps := 5000000) only [boolP_t, boolP_f, h5, go_sem, simprocAttr]

end Ve
