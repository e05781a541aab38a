/- What may be: the reference's, on. -/
import Derived.Test.YtdmcpcghdegheaaGreatVsC
set_option linter.all false
set_option linter.unusedSectionVars false
namespace Ve
open Go Ve.Ab
set_option maxRecDepth 10000
set_option linter.unusedSimpArgs false
set_option linter.unusedVariables false
def rowGo : Nat → List TWord → Bool
  | _, [] => true
  | j, a :: r => decide (j < 4) && wordMay a && rowGo (j + 1) r
theorem rowGo_eq : ∀ (r : List TWord) (j : Nat), j ≤ 4 → rowGo j r = (decide (j + r.length ≤ 4) && r.all wordMay)
  | [], j, h => by simp [rowGo, h]
  | a :: r, j, h => by
    simp only [rowGo, List.all_cons, List.length_cons]
    by_cases hj : j < 4
    · rw [rowGo_eq r (j + 1) (by omega)]
      have : decide (j + 1 + r.length ≤ 4) = decide (j + (r.length + 1) ≤ 4) := by apply decide_eq_decide.mpr; omega
      simp only [hj, decide_true, Bool.true_and, this]
      cases wordMay a <;> simp
    · have : decide (j + (r.length + 1) ≤ 4) = false := by simp; omega
      simp [hj, this]
theorem rowGo_may (ws : List TWord) : rowGo 0 ws = rowMay ws := by rw [rowGo_eq ws 0 (by omega), rowMay]; simp


theorem lr_arena0 (i k : Nat) (pa b c d na nb nc nd : Bool) (w0 w1 w2 w3 : List TWord) (hx : w0.length ≤ BB) (q : Out → St → Option Ans) (Q : V → Hp → Nat → Prop) (u : Dum (fun s q => evC ctx (Lv ctx (i + 3)) (pureOf (Lv ctx (i + 3))) k c54_1 s (restK [1, 3, 4] q))) (w : Dum q) : ∀ (suf pre : List TWord) (kk : Nat), w0 = pre ++ suf → suf.length < kk →
    GL 0 [1, 3, 4] (fun s q => evC ctx (Lv ctx (i + 3)) (pureOf (Lv ctx (i + 3))) k c54_1 s (restK [1, 3, 4] q)) q kk ⟨ofLive [1, 3, 4] [.ip (pa && (b && (c && d))) [.isl pa na 3 (w0.map eW), .isl b nb 3 (w1.map eW), .isl c nc 3 (w2.map eW), .isl d nd 3 (w3.map eW)] 0, iV 0, iV pre.length], emptyHp, 0⟩ Q u w = boolP (rowGo pre.length suf) (Fin (q (.exit 2) ⟨ofLive [1, 3] [.ip (pa && (b && (c && d))) [.isl pa na 3 (w0.map eW), .isl b nb 3 (w1.map eW), .isl c nc 3 (w2.map eW), .isl d nd 3 (w3.map eW)] 0, iV 0], emptyHp, 0⟩) Q) (Fin (q .ret ⟨ofLive [2] [bV false], emptyHp, 0⟩) Q)
  | [], pre, kk, hxs, hk => by
    obtain ⟨kk, rfl⟩ : ∃ m, kk = m + 1 := ⟨kk - 1, by simp at hk; omega⟩
    have h1 : decide ((pre.length : Int) < w0.length) = false := by simp [hxs]
    simp (config := { contextual := true, dsimp := false, implicitDefEqProofs := false, maxSteps := 5000000 }) only [gLs, ↓un_c (c54_1.eq_1), h1, boolP_t, rowGo, go_sem, Nat.reduceEqDiff, Nat.reduceAdd, Nat.reduceLeDiff, Nat.reduceMul, Nat.reduceLT, Nat.reduceBEq, Int.reduceLT, Int.reduceLE, Int.reduceToNat, Int.reduceAdd, Int.reduceSub, Int.reduceEq, Int.reduceNeg, ↓reduceIte]
  | a :: suf, pre, kk, hxs, hk => by
    obtain ⟨kk, rfl⟩ : ∃ m, kk = m + 1 := ⟨kk - 1, by simp at hk; omega⟩
    have hl : pre.length < w0.length := by simp [hxs]
    have h2 : ((pre.length : Int) < w0.length) = True := by simpa using hl
    have h3 : (0 ≤ (pre.length : Int)) = True := by simp
    have h4 := wrN pre.length (by omega)
    have hg : w0[pre.length]? = some a := by simp [hxs]
    have ih := lr_arena0 i k pa b c d na nb nc nd w0 w1 w2 w3 hx q Q u w suf (pre ++ [a]) kk (by simp [hxs]) (by simpa using hk)
    rw [append_len1] at ih
    simp only [rowGo]
    by_cases hj : pre.length < 4
    · have h5 : decide ((4 : Int) ≤ (pre.length : Int)) = false := by simp; omega
      have h6 : decide (pre.length < 4) = true := by simpa using hj
      cases hb : wordMay a
      · rw [h6, Bool.true_and, Bool.false_and]
        simp (config := { contextual := true, dsimp := false, implicitDefEqProofs := false, maxSteps := 5000000 }) only [gLs, ↓un_c (c54_1.eq_1), h2, h3, h4, h5, hg, hb, boolP_f, go_sem, Nat.reduceEqDiff, Nat.reduceAdd, Nat.reduceLeDiff, Nat.reduceMul, Nat.reduceLT, Nat.reduceBEq, Int.reduceLT, Int.reduceLE, Int.reduceToNat, Int.reduceAdd, Int.reduceSub, Int.reduceEq, Int.reduceNeg, ↓reduceIte]
      · rw [h6, Bool.true_and, Bool.true_and]
        simp (config := { contextual := true, dsimp := false, implicitDefEqProofs := false, maxSteps := 5000000 }) only [gLs, ↓un_c (c54_1.eq_1), h2, h3, h4, h5, hg, hb, ih, go_sem, Nat.reduceEqDiff, Nat.reduceAdd, Nat.reduceLeDiff, Nat.reduceMul, Nat.reduceLT, Nat.reduceBEq, Int.reduceLT, Int.reduceLE, Int.reduceToNat, Int.reduceAdd, Int.reduceSub, Int.reduceEq, Int.reduceNeg, ↓reduceIte]
    · have h5 : decide ((4 : Int) ≤ (pre.length : Int)) = true := by simp; omega
      have h6 : decide (pre.length < 4) = false := by simpa using hj
      rw [h6, Bool.false_and, Bool.false_and]
      simp (config := { contextual := true, dsimp := false, implicitDefEqProofs := false, maxSteps := 5000000 }) only [gLs, ↓un_c (c54_1.eq_1), h2, h3, h4, h5, hg, boolP_f, go_sem, Nat.reduceEqDiff, Nat.reduceAdd, Nat.reduceLeDiff, Nat.reduceMul, Nat.reduceLT, Nat.reduceBEq, Int.reduceLT, Int.reduceLE, Int.reduceToNat, Int.reduceAdd, Int.reduceSub, Int.reduceEq, Int.reduceNeg, ↓reduceIte]


theorem lr_arena1 (i k : Nat) (pa b c d na nb nc nd : Bool) (w0 w1 w2 w3 : List TWord) (hx : w1.length ≤ BB) (q : Out → St → Option Ans) (Q : V → Hp → Nat → Prop) (u : Dum (fun s q => evC ctx (Lv ctx (i + 3)) (pureOf (Lv ctx (i + 3))) k c54_1 s (restK [1, 3, 4] q))) (w : Dum q) : ∀ (suf pre : List TWord) (kk : Nat), w1 = pre ++ suf → suf.length < kk →
    GL 0 [1, 3, 4] (fun s q => evC ctx (Lv ctx (i + 3)) (pureOf (Lv ctx (i + 3))) k c54_1 s (restK [1, 3, 4] q)) q kk ⟨ofLive [1, 3, 4] [.ip (pa && (b && (c && d))) [.isl pa na 3 (w0.map eW), .isl b nb 3 (w1.map eW), .isl c nc 3 (w2.map eW), .isl d nd 3 (w3.map eW)] 0, iV 1, iV pre.length], emptyHp, 0⟩ Q u w = boolP (rowGo pre.length suf) (Fin (q (.exit 2) ⟨ofLive [1, 3] [.ip (pa && (b && (c && d))) [.isl pa na 3 (w0.map eW), .isl b nb 3 (w1.map eW), .isl c nc 3 (w2.map eW), .isl d nd 3 (w3.map eW)] 0, iV 1], emptyHp, 0⟩) Q) (Fin (q .ret ⟨ofLive [2] [bV false], emptyHp, 0⟩) Q)
  | [], pre, kk, hxs, hk => by
    obtain ⟨kk, rfl⟩ : ∃ m, kk = m + 1 := ⟨kk - 1, by simp at hk; omega⟩
    have h1 : decide ((pre.length : Int) < w1.length) = false := by simp [hxs]
    simp (config := { contextual := true, dsimp := false, implicitDefEqProofs := false, maxSteps := 5000000 }) only [gLs, ↓un_c (c54_1.eq_1), h1, boolP_t, rowGo, go_sem, Nat.reduceEqDiff, Nat.reduceAdd, Nat.reduceLeDiff, Nat.reduceMul, Nat.reduceLT, Nat.reduceBEq, Int.reduceLT, Int.reduceLE, Int.reduceToNat, Int.reduceAdd, Int.reduceSub, Int.reduceEq, Int.reduceNeg, ↓reduceIte]
  | a :: suf, pre, kk, hxs, hk => by
    obtain ⟨kk, rfl⟩ : ∃ m, kk = m + 1 := ⟨kk - 1, by simp at hk; omega⟩
    have hl : pre.length < w1.length := by simp [hxs]
    have h2 : ((pre.length : Int) < w1.length) = True := by simpa using hl
    have h3 : (0 ≤ (pre.length : Int)) = True := by simp
    have h4 := wrN pre.length (by omega)
    have hg : w1[pre.length]? = some a := by simp [hxs]
    have ih := lr_arena1 i k pa b c d na nb nc nd w0 w1 w2 w3 hx q Q u w suf (pre ++ [a]) kk (by simp [hxs]) (by simpa using hk)
    rw [append_len1] at ih
    simp only [rowGo]
    by_cases hj : pre.length < 4
    · have h5 : decide ((4 : Int) ≤ (pre.length : Int)) = false := by simp; omega
      have h6 : decide (pre.length < 4) = true := by simpa using hj
      cases hb : wordMay a
      · rw [h6, Bool.true_and, Bool.false_and]
        simp (config := { contextual := true, dsimp := false, implicitDefEqProofs := false, maxSteps := 5000000 }) only [gLs, ↓un_c (c54_1.eq_1), h2, h3, h4, h5, hg, hb, boolP_f, go_sem, Nat.reduceEqDiff, Nat.reduceAdd, Nat.reduceLeDiff, Nat.reduceMul, Nat.reduceLT, Nat.reduceBEq, Int.reduceLT, Int.reduceLE, Int.reduceToNat, Int.reduceAdd, Int.reduceSub, Int.reduceEq, Int.reduceNeg, ↓reduceIte]
      · rw [h6, Bool.true_and, Bool.true_and]
        simp (config := { contextual := true, dsimp := false, implicitDefEqProofs := false, maxSteps := 5000000 }) only [gLs, ↓un_c (c54_1.eq_1), h2, h3, h4, h5, hg, hb, ih, go_sem, Nat.reduceEqDiff, Nat.reduceAdd, Nat.reduceLeDiff, Nat.reduceMul, Nat.reduceLT, Nat.reduceBEq, Int.reduceLT, Int.reduceLE, Int.reduceToNat, Int.reduceAdd, Int.reduceSub, Int.reduceEq, Int.reduceNeg, ↓reduceIte]
    · have h5 : decide ((4 : Int) ≤ (pre.length : Int)) = true := by simp; omega
      have h6 : decide (pre.length < 4) = false := by simpa using hj
      rw [h6, Bool.false_and, Bool.false_and]
      simp (config := { contextual := true, dsimp := false, implicitDefEqProofs := false, maxSteps := 5000000 }) only [gLs, ↓un_c (c54_1.eq_1), h2, h3, h4, h5, hg, boolP_f, go_sem, Nat.reduceEqDiff, Nat.reduceAdd, Nat.reduceLeDiff, Nat.reduceMul, Nat.reduceLT, Nat.reduceBEq, Int.reduceLT, Int.reduceLE, Int.reduceToNat, Int.reduceAdd, Int.reduceSub, Int.reduceEq, Int.reduceNeg, ↓reduceIte]


theorem lr_arena2 (i k : Nat) (pa b c d na nb nc nd : Bool) (w0 w1 w2 w3 : List TWord) (hx : w2.length ≤ BB) (q : Out → St → Option Ans) (Q : V → Hp → Nat → Prop) (u : Dum (fun s q => evC ctx (Lv ctx (i + 3)) (pureOf (Lv ctx (i + 3))) k c54_1 s (restK [1, 3, 4] q))) (w : Dum q) : ∀ (suf pre : List TWord) (kk : Nat), w2 = pre ++ suf → suf.length < kk →
    GL 0 [1, 3, 4] (fun s q => evC ctx (Lv ctx (i + 3)) (pureOf (Lv ctx (i + 3))) k c54_1 s (restK [1, 3, 4] q)) q kk ⟨ofLive [1, 3, 4] [.ip (pa && (b && (c && d))) [.isl pa na 3 (w0.map eW), .isl b nb 3 (w1.map eW), .isl c nc 3 (w2.map eW), .isl d nd 3 (w3.map eW)] 0, iV 2, iV pre.length], emptyHp, 0⟩ Q u w = boolP (rowGo pre.length suf) (Fin (q (.exit 2) ⟨ofLive [1, 3] [.ip (pa && (b && (c && d))) [.isl pa na 3 (w0.map eW), .isl b nb 3 (w1.map eW), .isl c nc 3 (w2.map eW), .isl d nd 3 (w3.map eW)] 0, iV 2], emptyHp, 0⟩) Q) (Fin (q .ret ⟨ofLive [2] [bV false], emptyHp, 0⟩) Q)
  | [], pre, kk, hxs, hk => by
    obtain ⟨kk, rfl⟩ : ∃ m, kk = m + 1 := ⟨kk - 1, by simp at hk; omega⟩
    have h1 : decide ((pre.length : Int) < w2.length) = false := by simp [hxs]
    simp (config := { contextual := true, dsimp := false, implicitDefEqProofs := false, maxSteps := 5000000 }) only [gLs, ↓un_c (c54_1.eq_1), h1, boolP_t, rowGo, go_sem, Nat.reduceEqDiff, Nat.reduceAdd, Nat.reduceLeDiff, Nat.reduceMul, Nat.reduceLT, Nat.reduceBEq, Int.reduceLT, Int.reduceLE, Int.reduceToNat, Int.reduceAdd, Int.reduceSub, Int.reduceEq, Int.reduceNeg, ↓reduceIte]
  | a :: suf, pre, kk, hxs, hk => by
    obtain ⟨kk, rfl⟩ : ∃ m, kk = m + 1 := ⟨kk - 1, by simp at hk; omega⟩
    have hl : pre.length < w2.length := by simp [hxs]
    have h2 : ((pre.length : Int) < w2.length) = True := by simpa using hl
    have h3 : (0 ≤ (pre.length : Int)) = True := by simp
    have h4 := wrN pre.length (by omega)
    have hg : w2[pre.length]? = some a := by simp [hxs]
    have ih := lr_arena2 i k pa b c d na nb nc nd w0 w1 w2 w3 hx q Q u w suf (pre ++ [a]) kk (by simp [hxs]) (by simpa using hk)
    rw [append_len1] at ih
    simp only [rowGo]
    by_cases hj : pre.length < 4
    · have h5 : decide ((4 : Int) ≤ (pre.length : Int)) = false := by simp; omega
      have h6 : decide (pre.length < 4) = true := by simpa using hj
      cases hb : wordMay a
      · rw [h6, Bool.true_and, Bool.false_and]
        simp (config := { contextual := true, dsimp := false, implicitDefEqProofs := false, maxSteps := 5000000 }) only [gLs, ↓un_c (c54_1.eq_1), h2, h3, h4, h5, hg, hb, boolP_f, go_sem, Nat.reduceEqDiff, Nat.reduceAdd, Nat.reduceLeDiff, Nat.reduceMul, Nat.reduceLT, Nat.reduceBEq, Int.reduceLT, Int.reduceLE, Int.reduceToNat, Int.reduceAdd, Int.reduceSub, Int.reduceEq, Int.reduceNeg, ↓reduceIte]
      · rw [h6, Bool.true_and, Bool.true_and]
        simp (config := { contextual := true, dsimp := false, implicitDefEqProofs := false, maxSteps := 5000000 }) only [gLs, ↓un_c (c54_1.eq_1), h2, h3, h4, h5, hg, hb, ih, go_sem, Nat.reduceEqDiff, Nat.reduceAdd, Nat.reduceLeDiff, Nat.reduceMul, Nat.reduceLT, Nat.reduceBEq, Int.reduceLT, Int.reduceLE, Int.reduceToNat, Int.reduceAdd, Int.reduceSub, Int.reduceEq, Int.reduceNeg, ↓reduceIte]
    · have h5 : decide ((4 : Int) ≤ (pre.length : Int)) = true := by simp; omega
      have h6 : decide (pre.length < 4) = false := by simpa using hj
      rw [h6, Bool.false_and, Bool.false_and]
      simp (config := { contextual := true, dsimp := false, implicitDefEqProofs := false, maxSteps := 5000000 }) only [gLs, ↓un_c (c54_1.eq_1), h2, h3, h4, h5, hg, boolP_f, go_sem, Nat.reduceEqDiff, Nat.reduceAdd, Nat.reduceLeDiff, Nat.reduceMul, Nat.reduceLT, Nat.reduceBEq, Int.reduceLT, Int.reduceLE, Int.reduceToNat, Int.reduceAdd, Int.reduceSub, Int.reduceEq, Int.reduceNeg, ↓reduceIte]


theorem lr_arena3 (i k : Nat) (pa b c d na nb nc nd : Bool) (w0 w1 w2 w3 : List TWord) (hx : w3.length ≤ BB) (q : Out → St → Option Ans) (Q : V → Hp → Nat → Prop) (u : Dum (fun s q => evC ctx (Lv ctx (i + 3)) (pureOf (Lv ctx (i + 3))) k c54_1 s (restK [1, 3, 4] q))) (w : Dum q) : ∀ (suf pre : List TWord) (kk : Nat), w3 = pre ++ suf → suf.length < kk →
    GL 0 [1, 3, 4] (fun s q => evC ctx (Lv ctx (i + 3)) (pureOf (Lv ctx (i + 3))) k c54_1 s (restK [1, 3, 4] q)) q kk ⟨ofLive [1, 3, 4] [.ip (pa && (b && (c && d))) [.isl pa na 3 (w0.map eW), .isl b nb 3 (w1.map eW), .isl c nc 3 (w2.map eW), .isl d nd 3 (w3.map eW)] 0, iV 3, iV pre.length], emptyHp, 0⟩ Q u w = boolP (rowGo pre.length suf) (Fin (q (.exit 2) ⟨ofLive [1, 3] [.ip (pa && (b && (c && d))) [.isl pa na 3 (w0.map eW), .isl b nb 3 (w1.map eW), .isl c nc 3 (w2.map eW), .isl d nd 3 (w3.map eW)] 0, iV 3], emptyHp, 0⟩) Q) (Fin (q .ret ⟨ofLive [2] [bV false], emptyHp, 0⟩) Q)
  | [], pre, kk, hxs, hk => by
    obtain ⟨kk, rfl⟩ : ∃ m, kk = m + 1 := ⟨kk - 1, by simp at hk; omega⟩
    have h1 : decide ((pre.length : Int) < w3.length) = false := by simp [hxs]
    simp (config := { contextual := true, dsimp := false, implicitDefEqProofs := false, maxSteps := 5000000 }) only [gLs, ↓un_c (c54_1.eq_1), h1, boolP_t, rowGo, go_sem, Nat.reduceEqDiff, Nat.reduceAdd, Nat.reduceLeDiff, Nat.reduceMul, Nat.reduceLT, Nat.reduceBEq, Int.reduceLT, Int.reduceLE, Int.reduceToNat, Int.reduceAdd, Int.reduceSub, Int.reduceEq, Int.reduceNeg, ↓reduceIte]
  | a :: suf, pre, kk, hxs, hk => by
    obtain ⟨kk, rfl⟩ : ∃ m, kk = m + 1 := ⟨kk - 1, by simp at hk; omega⟩
    have hl : pre.length < w3.length := by simp [hxs]
    have h2 : ((pre.length : Int) < w3.length) = True := by simpa using hl
    have h3 : (0 ≤ (pre.length : Int)) = True := by simp
    have h4 := wrN pre.length (by omega)
    have hg : w3[pre.length]? = some a := by simp [hxs]
    have ih := lr_arena3 i k pa b c d na nb nc nd w0 w1 w2 w3 hx q Q u w suf (pre ++ [a]) kk (by simp [hxs]) (by simpa using hk)
    rw [append_len1] at ih
    simp only [rowGo]
    by_cases hj : pre.length < 4
    · have h5 : decide ((4 : Int) ≤ (pre.length : Int)) = false := by simp; omega
      have h6 : decide (pre.length < 4) = true := by simpa using hj
      cases hb : wordMay a
      · rw [h6, Bool.true_and, Bool.false_and]
        simp (config := { contextual := true, dsimp := false, implicitDefEqProofs := false, maxSteps := 5000000 }) only [gLs, ↓un_c (c54_1.eq_1), h2, h3, h4, h5, hg, hb, boolP_f, go_sem, Nat.reduceEqDiff, Nat.reduceAdd, Nat.reduceLeDiff, Nat.reduceMul, Nat.reduceLT, Nat.reduceBEq, Int.reduceLT, Int.reduceLE, Int.reduceToNat, Int.reduceAdd, Int.reduceSub, Int.reduceEq, Int.reduceNeg, ↓reduceIte]
      · rw [h6, Bool.true_and, Bool.true_and]
        simp (config := { contextual := true, dsimp := false, implicitDefEqProofs := false, maxSteps := 5000000 }) only [gLs, ↓un_c (c54_1.eq_1), h2, h3, h4, h5, hg, hb, ih, go_sem, Nat.reduceEqDiff, Nat.reduceAdd, Nat.reduceLeDiff, Nat.reduceMul, Nat.reduceLT, Nat.reduceBEq, Int.reduceLT, Int.reduceLE, Int.reduceToNat, Int.reduceAdd, Int.reduceSub, Int.reduceEq, Int.reduceNeg, ↓reduceIte]
    · have h5 : decide ((4 : Int) ≤ (pre.length : Int)) = true := by simp; omega
      have h6 : decide (pre.length < 4) = false := by simpa using hj
      rw [h6, Bool.false_and, Bool.false_and]
      simp (config := { contextual := true, dsimp := false, implicitDefEqProofs := false, maxSteps := 5000000 }) only [gLs, ↓un_c (c54_1.eq_1), h2, h3, h4, h5, hg, boolP_f, go_sem, Nat.reduceEqDiff, Nat.reduceAdd, Nat.reduceLeDiff, Nat.reduceMul, Nat.reduceLT, Nat.reduceBEq, Int.reduceLT, Int.reduceLE, Int.reduceToNat, Int.reduceAdd, Int.reduceSub, Int.reduceEq, Int.reduceNeg, ↓reduceIte]


theorem r_arena (i : Nat) (a b c d na nb nc nd : Bool) (w0 w1 w2 w3 : List TWord) (h0 : w0.length ≤ BB) (h1 : w1.length ≤ BB) (h2 : w2.length ≤ BB) (h3 : w3.length ≤ BB) : pureOf (Lv ctx (i + 4)) 54 [.agg [.isl a na 3 (w0.map eW), .isl b nb 3 (w1.map eW), .isl c nc 3 (w2.map eW), .isl d nd 3 (w3.map eW)]] = some (bV (arenaMay ⟨w0, w1, w2, w3⟩)) := by
  refine sp_of rfl (w0.length + w1.length + w2.length + w3.length + 5) (by rfl) ?_
  delta c54
  have l0 := fun q Q u w => lr_arena0 i (w0.length + w1.length + w2.length + w3.length + 5) a b c d na nb nc nd w0 w1 w2 w3 h0 q Q u w w0 [] (w0.length + w1.length + w2.length + w3.length + 5) rfl (by omega)
  have l1 := fun q Q u w => lr_arena1 i (w0.length + w1.length + w2.length + w3.length + 5) a b c d na nb nc nd w0 w1 w2 w3 h1 q Q u w w1 [] (w0.length + w1.length + w2.length + w3.length + 5) rfl (by omega)
  have l2 := fun q Q u w => lr_arena2 i (w0.length + w1.length + w2.length + w3.length + 5) a b c d na nb nc nd w0 w1 w2 w3 h2 q Q u w w2 [] (w0.length + w1.length + w2.length + w3.length + 5) rfl (by omega)
  have l3 := fun q Q u w => lr_arena3 i (w0.length + w1.length + w2.length + w3.length + 5) a b c d na nb nc nd w0 w1 w2 w3 h3 q Q u w w3 [] (w0.length + w1.length + w2.length + w3.length + 5) rfl (by omega)
  simp only [List.length_nil, Int.natCast_zero, rowGo_may] at l0 l1 l2 l3
  have ho := fun q k s Q u w => gLs 0 [1, 3] (fun s q => evC ctx (Lv ctx (i + 3)) (pureOf (Lv ctx (i + 3))) (w0.length + w1.length + w2.length + w3.length + 5) c54_2 s (restK [1, 3] q)) q k s Q u w
  simp (config := { contextual := true, dsimp := false, implicitDefEqProofs := false, maxSteps := 5000000 }) only [ho, ↓un_c (c54_2.eq_1), arenaMay, A4.all, go_sem, Nat.reduceEqDiff, Nat.reduceAdd, Nat.reduceLeDiff, Nat.reduceMul, Nat.reduceLT, Nat.reduceBEq, Int.reduceLT, Int.reduceLE, Int.reduceToNat, Int.reduceAdd, Int.reduceSub, Int.reduceEq, Int.reduceNeg, ↓reduceIte]
  refine Eq.mpr (l0 _ _ _ _) ?_
  cases r0 : rowMay w0
  · simp (config := { contextual := true, dsimp := false, implicitDefEqProofs := false, maxSteps := 5000000 }) only [boolP_f, go_sem, Nat.reduceEqDiff, Nat.reduceAdd, Nat.reduceLeDiff, Nat.reduceMul, Nat.reduceLT, Nat.reduceBEq, Int.reduceLT, Int.reduceLE, Int.reduceToNat, Int.reduceAdd, Int.reduceSub, Int.reduceEq, Int.reduceNeg, ↓reduceIte]
  · simp (config := { contextual := true, dsimp := false, implicitDefEqProofs := false, maxSteps := 5000000 }) only [boolP_t, ho, ↓un_c (c54_2.eq_1), go_sem, Nat.reduceEqDiff, Nat.reduceAdd, Nat.reduceLeDiff, Nat.reduceMul, Nat.reduceLT, Nat.reduceBEq, Int.reduceLT, Int.reduceLE, Int.reduceToNat, Int.reduceAdd, Int.reduceSub, Int.reduceEq, Int.reduceNeg, ↓reduceIte]
    refine Eq.mpr (l1 _ _ _ _) ?_
    cases r1 : rowMay w1
    · simp (config := { contextual := true, dsimp := false, implicitDefEqProofs := false, maxSteps := 5000000 }) only [boolP_f, go_sem, Nat.reduceEqDiff, Nat.reduceAdd, Nat.reduceLeDiff, Nat.reduceMul, Nat.reduceLT, Nat.reduceBEq, Int.reduceLT, Int.reduceLE, Int.reduceToNat, Int.reduceAdd, Int.reduceSub, Int.reduceEq, Int.reduceNeg, ↓reduceIte]
    · simp (config := { contextual := true, dsimp := false, implicitDefEqProofs := false, maxSteps := 5000000 }) only [boolP_t, ho, ↓un_c (c54_2.eq_1), go_sem, Nat.reduceEqDiff, Nat.reduceAdd, Nat.reduceLeDiff, Nat.reduceMul, Nat.reduceLT, Nat.reduceBEq, Int.reduceLT, Int.reduceLE, Int.reduceToNat, Int.reduceAdd, Int.reduceSub, Int.reduceEq, Int.reduceNeg, ↓reduceIte]
      refine Eq.mpr (l2 _ _ _ _) ?_
      cases r2 : rowMay w2
      · simp (config := { contextual := true, dsimp := false, implicitDefEqProofs := false, maxSteps := 5000000 }) only [boolP_f, go_sem, Nat.reduceEqDiff, Nat.reduceAdd, Nat.reduceLeDiff, Nat.reduceMul, Nat.reduceLT, Nat.reduceBEq, Int.reduceLT, Int.reduceLE, Int.reduceToNat, Int.reduceAdd, Int.reduceSub, Int.reduceEq, Int.reduceNeg, ↓reduceIte]
      · simp (config := { contextual := true, dsimp := false, implicitDefEqProofs := false, maxSteps := 5000000 }) only [boolP_t, ho, ↓un_c (c54_2.eq_1), go_sem, Nat.reduceEqDiff, Nat.reduceAdd, Nat.reduceLeDiff, Nat.reduceMul, Nat.reduceLT, Nat.reduceBEq, Int.reduceLT, Int.reduceLE, Int.reduceToNat, Int.reduceAdd, Int.reduceSub, Int.reduceEq, Int.reduceNeg, ↓reduceIte]
        refine Eq.mpr (l3 _ _ _ _) ?_
        cases r3 : rowMay w3
        · simp (config := { contextual := true, dsimp := false, implicitDefEqProofs := false, maxSteps := 5000000 }) only [boolP_f, go_sem, Nat.reduceEqDiff, Nat.reduceAdd, Nat.reduceLeDiff, Nat.reduceMul, Nat.reduceLT, Nat.reduceBEq, Int.reduceLT, Int.reduceLE, Int.reduceToNat, Int.reduceAdd, Int.reduceSub, Int.reduceEq, Int.reduceNeg, ↓reduceIte]
        · simp (config := { contextual := true, dsimp := false, implicitDefEqProofs := false, maxSteps := 5000000 }) only [boolP_t, ho, ↓un_c (c54_2.eq_1), go_sem, Nat.reduceEqDiff, Nat.reduceAdd, Nat.reduceLeDiff, Nat.reduceMul, Nat.reduceLT, Nat.reduceBEq, Int.reduceLT, Int.reduceLE, Int.reduceToNat, Int.reduceAdd, Int.reduceSub, Int.reduceEq, Int.reduceNeg, ↓reduceIte]


theorem lr_reads1 (i k : Nat) (pf nn : Bool) (xs : List TRead) (hx : xs.length ≤ BB) (pp : List TRead) (n : TRead) (tl : List TRead) (hxs0 : xs = pp ++ n :: tl) (q : Out → St → Option Ans) (Q : V → Hp → Nat → Prop) (u : Dum (fun s q => evC ctx (Lv ctx (i + 3)) (pureOf (Lv ctx (i + 3))) k c86_1 s (restK [0, 3, 4] q))) (w : Dum q) : ∀ (suf pre : List TRead) (kk : Nat), pp = pre ++ suf → suf.length < kk →
    GL 0 [0, 3, 4] (fun s q => evC ctx (Lv ctx (i + 3)) (pureOf (Lv ctx (i + 3))) k c86_1 s (restK [0, 3, 4] q)) q kk ⟨ofLive [0, 3, 4] [.isl pf nn 3 (xs.map eR), iV pp.length, iV pre.length], emptyHp, 0⟩ Q u w = boolP (!(suf.any (sameR n))) (Fin (q (.exit 2) ⟨ofLive [0, 3] [.isl pf nn 3 (xs.map eR), iV pp.length], emptyHp, 0⟩) Q) (Fin (q .ret ⟨ofLive [2] [bV false], emptyHp, 0⟩) Q)
  | [], pre, kk, hxs, hk => by
    obtain ⟨kk, rfl⟩ : ∃ m, kk = m + 1 := ⟨kk - 1, by simp at hk; omega⟩
    have h1 : decide ((pre.length : Int) < pp.length) = false := by simp [hxs]
    simp (config := { contextual := true, dsimp := false, implicitDefEqProofs := false, maxSteps := 5000000 }) only [gLs, ↓un_c (c86_1.eq_1), h1, boolP_t, List.any_nil, go_sem, Nat.reduceEqDiff, Nat.reduceAdd, Nat.reduceLeDiff, Nat.reduceMul, Nat.reduceLT, Nat.reduceBEq, Int.reduceLT, Int.reduceLE, Int.reduceToNat, Int.reduceAdd, Int.reduceSub, Int.reduceEq, Int.reduceNeg, ↓reduceIte]
  | a :: suf, pre, kk, hxs, hk => by
    obtain ⟨kk, rfl⟩ : ∃ m, kk = m + 1 := ⟨kk - 1, by simp at hk; omega⟩
    have hl : pre.length < pp.length := by simp [hxs]
    have hl' : pp.length < xs.length := by simp [hxs0]
    have h2 : ((pre.length : Int) < pp.length) = True := by simpa using hl
    have h2' : ((pre.length : Int) < xs.length) = True := by simp; omega
    have h2n : ((pp.length : Int) < xs.length) = True := by simpa using hl'
    have h3 : (0 ≤ (pre.length : Int)) = True := by simp
    have h3' : (0 ≤ (pp.length : Int)) = True := by simp
    have h4 := wrN pre.length (by omega)
    have hg : xs[pre.length]? = some a := by simp [hxs0, hxs]
    have hg' : xs[pp.length]? = some n := by simp [hxs0]
    have ih := lr_reads1 i k pf nn xs hx pp n tl hxs0 q Q u w suf (pre ++ [a]) kk (by simp [hxs]) (by simpa using hk)
    rw [append_len1] at ih
    simp only [List.any_cons, sameR]
    cases c1 : decide (a.level = n.level)
    · simp (config := { contextual := true, dsimp := false, implicitDefEqProofs := false, maxSteps := 5000000 }) only [gLs, ↓un_c (c86_1.eq_1), h2, h2', h2n, h3, h3', h4, hg, hg', c1, ih, go_sem, Nat.reduceEqDiff, Nat.reduceAdd, Nat.reduceLeDiff, Nat.reduceMul, Nat.reduceLT, Nat.reduceBEq, Int.reduceLT, Int.reduceLE, Int.reduceToNat, Int.reduceAdd, Int.reduceSub, Int.reduceEq, Int.reduceNeg, ↓reduceIte]
    · cases c2 : decide (a.index = n.index)
      · simp (config := { contextual := true, dsimp := false, implicitDefEqProofs := false, maxSteps := 5000000 }) only [gLs, ↓un_c (c86_1.eq_1), h2, h2', h2n, h3, h3', h4, hg, hg', c1, c2, ih, go_sem, Nat.reduceEqDiff, Nat.reduceAdd, Nat.reduceLeDiff, Nat.reduceMul, Nat.reduceLT, Nat.reduceBEq, Int.reduceLT, Int.reduceLE, Int.reduceToNat, Int.reduceAdd, Int.reduceSub, Int.reduceEq, Int.reduceNeg, ↓reduceIte]
      · simp (config := { contextual := true, dsimp := false, implicitDefEqProofs := false, maxSteps := 5000000 }) only [gLs, ↓un_c (c86_1.eq_1), h2, h2', h2n, h3, h3', h4, hg, hg', c1, c2, boolP_f, go_sem, Nat.reduceEqDiff, Nat.reduceAdd, Nat.reduceLeDiff, Nat.reduceMul, Nat.reduceLT, Nat.reduceBEq, Int.reduceLT, Int.reduceLE, Int.reduceToNat, Int.reduceAdd, Int.reduceSub, Int.reduceEq, Int.reduceNeg, ↓reduceIte]


theorem lr_reads2 (i k : Nat) (pf nn : Bool) (xs : List TRead) (hx : xs.length ≤ BB) (hkk : xs.length < k) (q : Out → St → Option Ans) (Q : V → Hp → Nat → Prop) (u : Dum (fun s q => evC ctx (Lv ctx (i + 3)) (pureOf (Lv ctx (i + 3))) k c86_2 s (restK [0, 3] q))) (w : Dum q) : ∀ (suf pre : List TRead) (kk : Nat), xs = pre ++ suf → suf.length < kk →
    GL 0 [0, 3] (fun s q => evC ctx (Lv ctx (i + 3)) (pureOf (Lv ctx (i + 3))) k c86_2 s (restK [0, 3] q)) q kk ⟨ofLive [0, 3] [.isl pf nn 3 (xs.map eR), iV pre.length], emptyHp, 0⟩ Q u w = boolP (readsGo pre suf) (Fin (q (.exit 0) ⟨ofLive [0] [.isl pf nn 3 (xs.map eR)], emptyHp, 0⟩) Q) (Fin (q .ret ⟨ofLive [2] [bV false], emptyHp, 0⟩) Q)
  | [], pre, kk, hxs, hk => by
    obtain ⟨kk, rfl⟩ : ∃ m, kk = m + 1 := ⟨kk - 1, by simp at hk; omega⟩
    have h1 : decide ((pre.length : Int) < xs.length) = false := by simp [hxs]
    simp (config := { contextual := true, dsimp := false, implicitDefEqProofs := false, maxSteps := 5000000 }) only [gLs, ↓un_c (c86_2.eq_1), h1, boolP_t, readsGo, go_sem, Nat.reduceEqDiff, Nat.reduceAdd, Nat.reduceLeDiff, Nat.reduceMul, Nat.reduceLT, Nat.reduceBEq, Int.reduceLT, Int.reduceLE, Int.reduceToNat, Int.reduceAdd, Int.reduceSub, Int.reduceEq, Int.reduceNeg, ↓reduceIte]
  | a :: suf, pre, kk, hxs, hk => by
    obtain ⟨kk, rfl⟩ : ∃ m, kk = m + 1 := ⟨kk - 1, by simp at hk; omega⟩
    have hl : pre.length < xs.length := by simp [hxs]
    have h2 : ((pre.length : Int) < xs.length) = True := by simpa using hl
    have h3 : (0 ≤ (pre.length : Int)) = True := by simp
    have h4 := wrN pre.length (by omega)
    have hg : xs[pre.length]? = some a := by simp [hxs]
    have ih := lr_reads2 i k pf nn xs hx hkk q Q u w suf (pre ++ [a]) kk (by simp [hxs]) (by simpa using hk)
    rw [append_len1] at ih
    have h1 := fun q Q u w => lr_reads1 i k pf nn xs hx pre a suf hxs q Q u w pre [] k rfl (by omega)
    simp only [List.length_nil, Int.natCast_zero] at h1
    cases c1 : inR a.level 3
    · simp (config := { contextual := true, dsimp := false, implicitDefEqProofs := false, maxSteps := 5000000 }) only [gLs, ↓un_c (c86_2.eq_1), h2, h3, h4, hg, boolP_f, readsGo, read1, c1, go_sem, Nat.reduceEqDiff, Nat.reduceAdd, Nat.reduceLeDiff, Nat.reduceMul, Nat.reduceLT, Nat.reduceBEq, Int.reduceLT, Int.reduceLE, Int.reduceToNat, Int.reduceAdd, Int.reduceSub, Int.reduceEq, Int.reduceNeg, ↓reduceIte]
    · cases c2 : inR a.index 3
      · simp (config := { contextual := true, dsimp := false, implicitDefEqProofs := false, maxSteps := 5000000 }) only [gLs, ↓un_c (c86_2.eq_1), h2, h3, h4, hg, boolP_f, readsGo, read1, c1, c2, go_sem, Nat.reduceEqDiff, Nat.reduceAdd, Nat.reduceLeDiff, Nat.reduceMul, Nat.reduceLT, Nat.reduceBEq, Int.reduceLT, Int.reduceLE, Int.reduceToNat, Int.reduceAdd, Int.reduceSub, Int.reduceEq, Int.reduceNeg, ↓reduceIte]
      · cases c3 : inR a.ver 65535
        · simp (config := { contextual := true, dsimp := false, implicitDefEqProofs := false, maxSteps := 5000000 }) only [gLs, ↓un_c (c86_2.eq_1), h2, h3, h4, hg, boolP_f, readsGo, read1, c1, c2, c3, go_sem, Nat.reduceEqDiff, Nat.reduceAdd, Nat.reduceLeDiff, Nat.reduceMul, Nat.reduceLT, Nat.reduceBEq, Int.reduceLT, Int.reduceLE, Int.reduceToNat, Int.reduceAdd, Int.reduceSub, Int.reduceEq, Int.reduceNeg, ↓reduceIte]
        · have hr : readsGo pre (a :: suf) = (!(pre.any (sameR a)) && readsGo (pre ++ [a]) suf) := by simp only [readsGo, read1, c1, c2, c3, Bool.true_and, Bool.and_self]
          rw [hr]
          cases c4 : pre.any (sameR a) <;> rw [c4] at h1 <;> simp (config := { contextual := true, dsimp := false, implicitDefEqProofs := false, maxSteps := 5000000 }) only [gLs, ↓un_c (c86_2.eq_1), h2, h3, h4, hg, c1, c2, c3, h1, boolP_t, boolP_f, ih, go_sem, Nat.reduceEqDiff, Nat.reduceAdd, Nat.reduceLeDiff, Nat.reduceMul, Nat.reduceLT, Nat.reduceBEq, Int.reduceLT, Int.reduceLE, Int.reduceToNat, Int.reduceAdd, Int.reduceSub, Int.reduceEq, Int.reduceNeg, ↓reduceIte]
theorem r_reads (i : Nat) (pf nn : Bool) (xs : List TRead) (hx : xs.length ≤ BB) : pureOf (Lv ctx (i + 4)) 86 [.isl pf nn 3 (xs.map eR)] = some (bV (readsMay xs)) := by
  refine sp_of rfl (xs.length + 1) (by rfl) ?_
  delta c86
  have h2 := fun q Q u w => lr_reads2 i (xs.length + 1) pf nn xs hx (by omega) q Q u w xs [] (xs.length + 1) rfl (by omega)
  simp only [List.length_nil, Int.natCast_zero] at h2
  have h5 : decide ((xs.length : Int) ≤ 16) = decide (xs.length ≤ 16) := by apply decide_eq_decide.mpr; omega
  simp (config := { contextual := true, dsimp := false, implicitDefEqProofs := false, maxSteps := 5000000 }) only [readsMay, h5, go_sem, Nat.reduceEqDiff, Nat.reduceAdd, Nat.reduceLeDiff, Nat.reduceMul, Nat.reduceLT, Nat.reduceBEq, Int.reduceLT, Int.reduceLE, Int.reduceToNat, Int.reduceAdd, Int.reduceSub, Int.reduceEq, Int.reduceNeg, ↓reduceIte]
  refine Eq.mpr (h2 _ _ _ _) ?_
  cases hb : readsGo [] xs <;> simp (config := { contextual := true, dsimp := false, implicitDefEqProofs := false, maxSteps := 5000000 }) only [boolP_t, boolP_f, h5, go_sem, Nat.reduceEqDiff, Nat.reduceAdd, Nat.reduceLeDiff, Nat.reduceMul, Nat.reduceLT, Nat.reduceBEq, Int.reduceLT, Int.reduceLE, Int.reduceToNat, Int.reduceAdd, Int.reduceSub, Int.reduceEq, Int.reduceNeg, ↓reduceIte]

end Ve

/- What may be: the reference's programs, writes. -/
namespace Ve
open Go Ve.Ab
set_option maxRecDepth 10000
set_option linter.unusedSimpArgs false
set_option linter.unusedVariables false
theorem place_ok (a : TWrite) (ha : write1 a = true) : IntKind.wrap .i64 (IntKind.wrap .i64 (4 * a.level) + a.index) = 4 * a.level + a.index := by
  simp only [write1, inR, Bool.and_eq_true, decide_eq_true_eq] at ha
  have e1 := wr_id (a := 4 * a.level) (by omega) (by omega)
  have e2 := wr_id (a := 4 * a.level + a.index) (by omega) (by omega)
  simp only [wr] at e1 e2
  rw [e1, e2]
@[go_sem] theorem r_place (i : Nat) (l x : Int) : pureOf (Lv ctx (i + 1)) 122 [iV l, iV x] = some (iV (IntKind.wrap .i64 (IntKind.wrap .i64 (4 * l) + x))) := by
  refine sp_of rfl 0 (by rfl) ?_
  delta c122
  simp (config := { contextual := true, dsimp := false, implicitDefEqProofs := false, maxSteps := 5000000 }) only [go_sem, Nat.reduceEqDiff, Nat.reduceAdd, Nat.reduceLeDiff, Nat.reduceMul, Nat.reduceLT, Nat.reduceBEq, Int.reduceLT, Int.reduceLE, Int.reduceToNat, Int.reduceAdd, Int.reduceSub, Int.reduceEq, Int.reduceNeg, ↓reduceIte]
theorem lr_writes (i k : Nat) (pf nn : Bool) (xs : List TWrite) (hx : xs.length ≤ BB) (q : Out → St → Option Ans) (Q : V → Hp → Nat → Prop) (u : Dum (fun s q => evC ctx (Lv ctx (i + 3)) (pureOf (Lv ctx (i + 3))) k c87_1 s (restK [0, 3] q))) (w : Dum q) : ∀ (suf pre : List TWrite) (kk : Nat), xs = pre ++ suf → suf.length < kk → (∀ v, pre.getLast? = some v → write1 v = true) →
    GL 0 [0, 3] (fun s q => evC ctx (Lv ctx (i + 3)) (pureOf (Lv ctx (i + 3))) k c87_1 s (restK [0, 3] q)) q kk ⟨ofLive [0, 3] [.isl pf nn 3 (xs.map eWr), iV pre.length], emptyHp, 0⟩ Q u w =
    boolP (writesGo pre.getLast? suf) (Fin (q (.exit 0) ⟨ofLive [0] [.isl pf nn 3 (xs.map eWr)], emptyHp, 0⟩) Q) (Fin (q .ret ⟨ofLive [2] [bV false], emptyHp, 0⟩) Q)
  | [], pre, kk, hxs, hk, hv => by
    obtain ⟨kk, rfl⟩ : ∃ m, kk = m + 1 := ⟨kk - 1, by simp at hk; omega⟩
    have h1 : decide ((pre.length : Int) < xs.length) = false := by simp [hxs]
    have h2 : ∀ o, writesGo o [] = true := fun o => by cases o <;> rfl
    simp (config := { contextual := true, dsimp := false, implicitDefEqProofs := false, maxSteps := 5000000 }) only [gLs, ↓un_c (c87_1.eq_1), h1, boolP_t, h2, go_sem, Nat.reduceEqDiff, Nat.reduceAdd, Nat.reduceLeDiff, Nat.reduceMul, Nat.reduceLT, Nat.reduceBEq, Int.reduceLT, Int.reduceLE, Int.reduceToNat, Int.reduceAdd, Int.reduceSub, Int.reduceEq, Int.reduceNeg, ↓reduceIte]
  | a :: suf, pre, kk, hxs, hk, hv => by
    obtain ⟨kk, rfl⟩ : ∃ m, kk = m + 1 := ⟨kk - 1, by simp at hk; omega⟩
    have hl : pre.length < xs.length := by simp [hxs]
    have h2 : ((pre.length : Int) < xs.length) = True := by simpa using hl
    have h3 : (0 ≤ (pre.length : Int)) = True := by simp
    have h4 := wrN pre.length (by omega)
    have hg : xs[pre.length]? = some a := by simp [hxs]
    have ih := fun hv => lr_writes i k pf nn xs hx q Q u w suf (pre ++ [a]) kk (by simp [hxs]) (by simpa using hk) hv
    rw [append_len1] at ih
    simp only [List.getLast?_append, List.getLast?_singleton, Option.some_or, Option.some.injEq, forall_eq'] at ih
    rcases List.eq_nil_or_concat pre with rfl | ⟨L, v, rfl⟩
    · simp only [List.length_nil, cast0] at *
      cases c1 : inR a.level 3
      · simp (config := { contextual := true, dsimp := false, implicitDefEqProofs := false, maxSteps := 5000000 }) only [gLs, ↓un_c (c87_1.eq_1), h2, h3, h4, hg, boolP_f, writesGo, write1, c1, List.getLast?_nil, go_sem, Nat.reduceEqDiff, Nat.reduceAdd, Nat.reduceLeDiff, Nat.reduceMul, Nat.reduceLT, Nat.reduceBEq, Int.reduceLT, Int.reduceLE, Int.reduceToNat, Int.reduceAdd, Int.reduceSub, Int.reduceEq, Int.reduceNeg, ↓reduceIte]
      · cases c2 : inR a.index 3
        · simp (config := { contextual := true, dsimp := false, implicitDefEqProofs := false, maxSteps := 5000000 }) only [gLs, ↓un_c (c87_1.eq_1), h2, h3, h4, hg, boolP_f, writesGo, write1, c1, c2, List.getLast?_nil, go_sem, Nat.reduceEqDiff, Nat.reduceAdd, Nat.reduceLeDiff, Nat.reduceMul, Nat.reduceLT, Nat.reduceBEq, Int.reduceLT, Int.reduceLE, Int.reduceToNat, Int.reduceAdd, Int.reduceSub, Int.reduceEq, Int.reduceNeg, ↓reduceIte]
        · cases c3 : inR a.val 255
          · simp (config := { contextual := true, dsimp := false, implicitDefEqProofs := false, maxSteps := 5000000 }) only [gLs, ↓un_c (c87_1.eq_1), h2, h3, h4, hg, boolP_f, writesGo, write1, c1, c2, c3, List.getLast?_nil, go_sem, Nat.reduceEqDiff, Nat.reduceAdd, Nat.reduceLeDiff, Nat.reduceMul, Nat.reduceLT, Nat.reduceBEq, Int.reduceLT, Int.reduceLE, Int.reduceToNat, Int.reduceAdd, Int.reduceSub, Int.reduceEq, Int.reduceNeg, ↓reduceIte]
          · have ih' := ih (by simp only [write1, c1, c2, c3, Bool.and_self])
            simp only [Nat.zero_add, cast1] at ih'
            simp (config := { contextual := true, dsimp := false, implicitDefEqProofs := false, maxSteps := 5000000 }) only [gLs, ↓un_c (c87_1.eq_1), h2, h3, h4, hg, writesGo, write1, c1, c2, c3, ih', List.getLast?_nil, go_sem, Nat.reduceEqDiff, Nat.reduceAdd, Nat.reduceLeDiff, Nat.reduceMul, Nat.reduceLT, Nat.reduceBEq, Int.reduceLT, Int.reduceLE, Int.reduceToNat, Int.reduceAdd, Int.reduceSub, Int.reduceEq, Int.reduceNeg, ↓reduceIte]
    · have hv1 : write1 v = true := hv v (by simp)
      have hlen : (L.concat v).length = L.length + 1 := by simp
      have hlast : (L.concat v).getLast? = some v := by simp
      rw [hlen] at h2 h3 h4 hg ih
      rw [hlen, hlast]
      have h6 : IntKind.wrap .i64 (((L.length + 1 : Nat) : Int) - 1) = (L.length : Int) := by
        have := wr_id (a := (L.length : Int)) (by omega) (by simp [hlen] at hl; simp only [BB] at hx; omega)
        simp only [wr] at this
        rw [show (((L.length + 1 : Nat) : Int) - 1) = (L.length : Int) by omega, this]
      have h7 : ((L.length : Int) < xs.length) = True := by simp only [eq_iff_iff, iff_true]; rw [hlen] at hl; omega
      have h8 : (0 ≤ (L.length : Int)) = True := by simp
      have h9 : decide (0 < ((L.length + 1 : Nat) : Int)) = true := by simp only [decide_eq_true_eq]; omega
      have hg' : xs[L.length]? = some v := by simp [hxs]
      cases c1 : inR a.level 3
      · simp (config := { contextual := true, dsimp := false, implicitDefEqProofs := false, maxSteps := 5000000 }) only [gLs, ↓un_c (c87_1.eq_1), h2, h3, h4, hg, boolP_f, writesGo, write1, c1, go_sem, Nat.reduceEqDiff, Nat.reduceAdd, Nat.reduceLeDiff, Nat.reduceMul, Nat.reduceLT, Nat.reduceBEq, Int.reduceLT, Int.reduceLE, Int.reduceToNat, Int.reduceAdd, Int.reduceSub, Int.reduceEq, Int.reduceNeg, ↓reduceIte]
      · cases c2 : inR a.index 3
        · simp (config := { contextual := true, dsimp := false, implicitDefEqProofs := false, maxSteps := 5000000 }) only [gLs, ↓un_c (c87_1.eq_1), h2, h3, h4, hg, boolP_f, writesGo, write1, c1, c2, go_sem, Nat.reduceEqDiff, Nat.reduceAdd, Nat.reduceLeDiff, Nat.reduceMul, Nat.reduceLT, Nat.reduceBEq, Int.reduceLT, Int.reduceLE, Int.reduceToNat, Int.reduceAdd, Int.reduceSub, Int.reduceEq, Int.reduceNeg, ↓reduceIte]
        · cases c3 : inR a.val 255
          · simp (config := { contextual := true, dsimp := false, implicitDefEqProofs := false, maxSteps := 5000000 }) only [gLs, ↓un_c (c87_1.eq_1), h2, h3, h4, hg, boolP_f, writesGo, write1, c1, c2, c3, go_sem, Nat.reduceEqDiff, Nat.reduceAdd, Nat.reduceLeDiff, Nat.reduceMul, Nat.reduceLT, Nat.reduceBEq, Int.reduceLT, Int.reduceLE, Int.reduceToNat, Int.reduceAdd, Int.reduceSub, Int.reduceEq, Int.reduceNeg, ↓reduceIte]
          · have ha1 : write1 a = true := by simp only [write1, c1, c2, c3, Bool.and_self]
            have ih' := ih ha1
            have hr : decide (4 * a.level + a.index ≤ 4 * v.level + v.index) = !decide (place v.level v.index < place a.level a.index) := by rw [← decide_not]; apply decide_eq_decide.mpr; simp only [place]; omega
            have hpl := place_ok a ha1
            have hpl' := place_ok v hv1
            cases c4 : decide (place v.level v.index < place a.level a.index) <;> rw [c4] at hr <;>
              simp (config := { contextual := true, dsimp := false, implicitDefEqProofs := false, maxSteps := 5000000 }) only [gLs, ↓un_c (c87_1.eq_1), h2, h3, h4, h6, h7, h8, h9, hg, hg', hr, hpl, hpl', writesGo, ha1, c1, c2, c3, c4, ih', boolP_f, go_sem, Nat.reduceEqDiff, Nat.reduceAdd, Nat.reduceLeDiff, Nat.reduceMul, Nat.reduceLT, Nat.reduceBEq, Int.reduceLT, Int.reduceLE, Int.reduceToNat, Int.reduceAdd, Int.reduceSub, Int.reduceEq, Int.reduceNeg, ↓reduceIte]
theorem r_writes (i : Nat) (pf nn : Bool) (xs : List TWrite) (hx : xs.length ≤ BB) : pureOf (Lv ctx (i + 4)) 87 [.isl pf nn 3 (xs.map eWr)] = some (bV (writesMay xs)) := by
  refine sp_of rfl (xs.length + 1) (by rfl) ?_
  delta c87
  have h2 := fun q Q u w => lr_writes i (xs.length + 1) pf nn xs hx q Q u w xs [] (xs.length + 1) rfl (by omega) (by simp)
  simp only [List.length_nil, Int.natCast_zero, List.getLast?_nil] at h2
  have h5 : decide ((xs.length : Int) ≤ 16) = decide (xs.length ≤ 16) := by apply decide_eq_decide.mpr; omega
  simp (config := { contextual := true, dsimp := false, implicitDefEqProofs := false, maxSteps := 5000000 }) only [writesMay, h5, go_sem, Nat.reduceEqDiff, Nat.reduceAdd, Nat.reduceLeDiff, Nat.reduceMul, Nat.reduceLT, Nat.reduceBEq, Int.reduceLT, Int.reduceLE, Int.reduceToNat, Int.reduceAdd, Int.reduceSub, Int.reduceEq, Int.reduceNeg, ↓reduceIte]
  refine Eq.mpr (h2 _ _ _ _) ?_
  cases hb : writesGo none xs <;> simp (config := { contextual := true, dsimp := false, implicitDefEqProofs := false, maxSteps := 5000000 }) only [boolP_t, boolP_f, h5, go_sem, Nat.reduceEqDiff, Nat.reduceAdd, Nat.reduceLeDiff, Nat.reduceMul, Nat.reduceLT, Nat.reduceBEq, Int.reduceLT, Int.reduceLE, Int.reduceToNat, Int.reduceAdd, Int.reduceSub, Int.reduceEq, Int.reduceNeg, ↓reduceIte]
theorem lr_prog (i k : Nat) (pf nn : Bool) (xs : List TInst) (hx : xs.length ≤ BB) (q : Out → St → Option Ans) (Q : V → Hp → Nat → Prop) (u : Dum (fun s q => evC ctx (Lv ctx (i + 3)) (pureOf (Lv ctx (i + 3))) k c118_1 s (restK [0, 3] q))) (w : Dum q) : ∀ (suf pre : List TInst) (kk : Nat), xs = pre ++ suf → suf.length < kk →
    GL 0 [0, 3] (fun s q => evC ctx (Lv ctx (i + 3)) (pureOf (Lv ctx (i + 3))) k c118_1 s (restK [0, 3] q)) q kk ⟨ofLive [0, 3] [.isl pf nn 4 (xs.map eI), iV pre.length], emptyHp, 0⟩ Q u w =
    boolP (progGo xs.length pre.length suf) (Fin (q (.exit 0) ⟨ofLive [0] [.isl pf nn 4 (xs.map eI)], emptyHp, 0⟩) Q) (Fin (q .ret ⟨ofLive [2] [bV false], emptyHp, 0⟩) Q)
  | [], pre, kk, hxs, hk => by
    obtain ⟨kk, rfl⟩ : ∃ m, kk = m + 1 := ⟨kk - 1, by simp at hk; omega⟩
    have h1 : decide ((pre.length : Int) < xs.length) = false := by simp [hxs]
    simp (config := { contextual := true, dsimp := false, implicitDefEqProofs := false, maxSteps := 5000000 }) only [gLs, ↓un_c (c118_1.eq_1), h1, boolP_t, progGo, go_sem, Nat.reduceEqDiff, Nat.reduceAdd, Nat.reduceLeDiff, Nat.reduceMul, Nat.reduceLT, Nat.reduceBEq, Int.reduceLT, Int.reduceLE, Int.reduceToNat, Int.reduceAdd, Int.reduceSub, Int.reduceEq, Int.reduceNeg, ↓reduceIte]
  | a :: suf, pre, kk, hxs, hk => by
    obtain ⟨kk, rfl⟩ : ∃ m, kk = m + 1 := ⟨kk - 1, by simp at hk; omega⟩
    have hl : pre.length < xs.length := by simp [hxs]
    have h2 : ((pre.length : Int) < xs.length) = True := by simpa using hl
    have h3 : (0 ≤ (pre.length : Int)) = True := by simp
    have h4 := wrN pre.length (by omega)
    have hg : xs[pre.length]? = some a := by simp [hxs]
    have ih := lr_prog i k pf nn xs hx q Q u w suf (pre ++ [a]) kk (by simp [hxs]) (by simpa using hk)
    rw [append_len1] at ih
    have h5 : ((pre.length + 1 : Nat) : Int) = (pre.length : Int) + 1 := by simp
    have c5 : decide ((xs.length : Int) < a.b) = decide ((xs.length : Int) < a.b) := rfl
    cases c1 : instMay a
    · simp (config := { contextual := true, dsimp := false, implicitDefEqProofs := false, maxSteps := 5000000 }) only [gLs, ↓un_c (c118_1.eq_1), h2, h3, h4, hg, boolP_f, progGo, c1, go_sem, Nat.reduceEqDiff, Nat.reduceAdd, Nat.reduceLeDiff, Nat.reduceMul, Nat.reduceLT, Nat.reduceBEq, Int.reduceLT, Int.reduceLE, Int.reduceToNat, Int.reduceAdd, Int.reduceSub, Int.reduceEq, Int.reduceNeg, ↓reduceIte]
    · cases c2 : decide (a.code = 4)
      · have hr : progGo xs.length pre.length (a :: suf) = progGo xs.length ((pre.length + 1 : Nat) : Int) suf := by simp only [progGo, c1, c2, h5, Bool.true_and, Bool.false_and, Bool.not_false]
        rw [hr]
        simp (config := { contextual := true, dsimp := false, implicitDefEqProofs := false, maxSteps := 5000000 }) only [gLs, ↓un_c (c118_1.eq_1), h2, h3, h4, hg, c1, c2, ih, go_sem, Nat.reduceEqDiff, Nat.reduceAdd, Nat.reduceLeDiff, Nat.reduceMul, Nat.reduceLT, Nat.reduceBEq, Int.reduceLT, Int.reduceLE, Int.reduceToNat, Int.reduceAdd, Int.reduceSub, Int.reduceEq, Int.reduceNeg, ↓reduceIte]
      · cases c3 : decide (a.b ≤ (pre.length : Int))
        · cases c4 : decide ((xs.length : Int) < a.b)
          · have hr : progGo xs.length pre.length (a :: suf) = progGo xs.length ((pre.length + 1 : Nat) : Int) suf := by simp only [progGo, c1, c2, c3, c4, h5, Bool.true_and, Bool.false_or, Bool.not_false]
            rw [hr]
            simp (config := { contextual := true, dsimp := false, implicitDefEqProofs := false, maxSteps := 5000000 }) only [gLs, ↓un_c (c118_1.eq_1), h2, h3, h4, hg, c1, c2, c3, c4, ih, go_sem, Nat.reduceEqDiff, Nat.reduceAdd, Nat.reduceLeDiff, Nat.reduceMul, Nat.reduceLT, Nat.reduceBEq, Int.reduceLT, Int.reduceLE, Int.reduceToNat, Int.reduceAdd, Int.reduceSub, Int.reduceEq, Int.reduceNeg, ↓reduceIte]
          · have hr : progGo xs.length pre.length (a :: suf) = false := by simp only [progGo, c1, c2, c3, c4, h5, Bool.true_and, Bool.false_or, Bool.not_true, Bool.false_and]
            rw [hr]
            simp (config := { contextual := true, dsimp := false, implicitDefEqProofs := false, maxSteps := 5000000 }) only [gLs, ↓un_c (c118_1.eq_1), h2, h3, h4, hg, c1, c2, c3, c4, boolP_f, go_sem, Nat.reduceEqDiff, Nat.reduceAdd, Nat.reduceLeDiff, Nat.reduceMul, Nat.reduceLT, Nat.reduceBEq, Int.reduceLT, Int.reduceLE, Int.reduceToNat, Int.reduceAdd, Int.reduceSub, Int.reduceEq, Int.reduceNeg, ↓reduceIte]
        · have hr : progGo xs.length pre.length (a :: suf) = false := by simp only [progGo, c1, c2, c3, Bool.true_and, Bool.true_or, Bool.not_true, Bool.false_and]
          rw [hr]
          simp (config := { contextual := true, dsimp := false, implicitDefEqProofs := false, maxSteps := 5000000 }) only [gLs, ↓un_c (c118_1.eq_1), h2, h3, h4, hg, c1, c2, c3, boolP_f, go_sem, Nat.reduceEqDiff, Nat.reduceAdd, Nat.reduceLeDiff, Nat.reduceMul, Nat.reduceLT, Nat.reduceBEq, Int.reduceLT, Int.reduceLE, Int.reduceToNat, Int.reduceAdd, Int.reduceSub, Int.reduceEq, Int.reduceNeg, ↓reduceIte]
theorem r_prog (i : Nat) (pf nn : Bool) (xs : List TInst) (hx : xs.length ≤ BB) : pureOf (Lv ctx (i + 4)) 118 [.isl pf nn 4 (xs.map eI)] = some (bV (progMay xs)) := by
  refine sp_of rfl (xs.length + 1) (by rfl) ?_
  delta c118
  have h2 := fun q Q u w => lr_prog i (xs.length + 1) pf nn xs hx q Q u w xs [] (xs.length + 1) rfl (by omega)
  simp only [List.length_nil, Int.natCast_zero] at h2
  have h5 : decide ((xs.length : Int) ≤ 16) = decide (xs.length ≤ 16) := by apply decide_eq_decide.mpr; omega
  simp (config := { contextual := true, dsimp := false, implicitDefEqProofs := false, maxSteps := 5000000 }) only [progMay, h5, go_sem, Nat.reduceEqDiff, Nat.reduceAdd, Nat.reduceLeDiff, Nat.reduceMul, Nat.reduceLT, Nat.reduceBEq, Int.reduceLT, Int.reduceLE, Int.reduceToNat, Int.reduceAdd, Int.reduceSub, Int.reduceEq, Int.reduceNeg, ↓reduceIte]
  refine Eq.mpr (h2 _ _ _ _) ?_
  cases hb : progGo xs.length 0 xs <;> simp (config := { contextual := true, dsimp := false, implicitDefEqProofs := false, maxSteps := 5000000 }) only [boolP_t, boolP_f, h5, go_sem, Nat.reduceEqDiff, Nat.reduceAdd, Nat.reduceLeDiff, Nat.reduceMul, Nat.reduceLT, Nat.reduceBEq, Int.reduceLT, Int.reduceLE, Int.reduceToNat, Int.reduceAdd, Int.reduceSub, Int.reduceEq, Int.reduceNeg, ↓reduceIte]
theorem r_start (i : Nat) (pf nn : Bool) (a b c : Int) (xs : List TInst) (hx : xs.length ≤ BB) : pureOf (Lv ctx (i + 5)) 83 [.agg [iV a, iV b, iV c, .isl pf nn 4 (xs.map eI)]] = some (bV (startMay a b c xs)) := by
  have hp := r_prog i pf nn xs hx
  refine sp_of rfl 0 (by rfl) ?_
  delta c83
  simp (config := { contextual := true, dsimp := false, implicitDefEqProofs := false, maxSteps := 5000000 }) only [startMay, hp, go_sem, Nat.reduceEqDiff, Nat.reduceAdd, Nat.reduceLeDiff, Nat.reduceMul, Nat.reduceLT, Nat.reduceBEq, Int.reduceLT, Int.reduceLE, Int.reduceToNat, Int.reduceAdd, Int.reduceSub, Int.reduceEq, Int.reduceNeg, ↓reduceIte]
end Ve

/- What may be: the reference's machine. -/
namespace Ve
open Go Ve.Ab
set_option maxRecDepth 10000
set_option linter.unusedSimpArgs false
set_option linter.unusedVariables false
theorem r_sessMay (i : Nat) (pf ps : Bool) (m : TMach) (s : TSess) (hs : SmS s) : pureOf (Lv ctx (i + 6)) 56 [eM pf m, eS ps s] = some (bV (sessMay m.words s)) := by
  have h1 := r_start (i + 0) ps false s.id s.label s.clear s.prog hs.p
  have h2 := r_words (i + 0) ps s hs pf pf pf pf false false false false m.words.a0 m.words.a1 m.words.a2 m.words.a3
  have h3 := r_reads (i + 1) ps false s.reads hs.r
  have h4 := r_writes (i + 1) ps false s.writes hs.w
  simp only [Nat.add_assoc, Nat.reduceAdd] at h1 h2 h3 h4
  simp only [eS] at h2 ⊢
  have key : sessMay m.words s = ((startMay s.id s.label s.clear s.prog && (progThere m.words s.prog && writesThere m.words s.writes && readsThere m.words s.reads)) && (inR s.step 6 && inR s.pc s.prog.length && all4 255 s.regs.a0 s.regs.a1 s.regs.a2 s.regs.a3 && readsMay s.reads && writesMay s.writes) &&
      (inR s.at_ s.writes.length && inR s.stamp 65535 && inR s.tries 65535 && inR s.result 5 && inR s.told 255)) := by
    rw [Bool.eq_iff_iff]
    simp only [sessMay, regsMay, A4.all, all4, Bool.and_eq_true]
    constructor <;> (intro h; simp only [h, and_self])
  refine sp_of rfl 0 (by rfl) ?_
  delta c56
  have hb1 : ∀ a b : Bool, (!a || !b) = !(a && b) := by decide
  have hb2 : ∀ a b c d e : Bool, (!a || !b || !c || !d || !e) = !(a && b && c && d && e) := by decide
  rw [key]
  cases c1 : (startMay s.id s.label s.clear s.prog && (progThere m.words s.prog && writesThere m.words s.writes && readsThere m.words s.reads))
  · simp (config := { contextual := true, dsimp := false, implicitDefEqProofs := false, maxSteps := 5000000 }) only [h1, h2, h3, h4, hb1, c1, go_sem, Nat.reduceEqDiff, Nat.reduceAdd, Nat.reduceLeDiff, Nat.reduceMul, Nat.reduceLT, Nat.reduceBEq, Int.reduceLT, Int.reduceLE, Int.reduceToNat, Int.reduceAdd, Int.reduceSub, Int.reduceEq, Int.reduceNeg, ↓reduceIte]
  · cases c2 : (inR s.step 6 && inR s.pc s.prog.length && all4 255 s.regs.a0 s.regs.a1 s.regs.a2 s.regs.a3 && readsMay s.reads && writesMay s.writes)
    · simp only [inR] at c2
      simp (config := { contextual := true, dsimp := false, implicitDefEqProofs := false, maxSteps := 5000000 }) only [h1, h2, h3, h4, hb1, hb2, c1, c2, go_sem, Nat.reduceEqDiff, Nat.reduceAdd, Nat.reduceLeDiff, Nat.reduceMul, Nat.reduceLT, Nat.reduceBEq, Int.reduceLT, Int.reduceLE, Int.reduceToNat, Int.reduceAdd, Int.reduceSub, Int.reduceEq, Int.reduceNeg, ↓reduceIte]
    · simp only [inR] at c2
      simp (config := { contextual := true, dsimp := false, implicitDefEqProofs := false, maxSteps := 5000000 }) only [h1, h2, h3, h4, hb1, hb2, c1, c2, go_sem, Nat.reduceEqDiff, Nat.reduceAdd, Nat.reduceLeDiff, Nat.reduceMul, Nat.reduceLT, Nat.reduceBEq, Int.reduceLT, Int.reduceLE, Int.reduceToNat, Int.reduceAdd, Int.reduceSub, Int.reduceEq, Int.reduceNeg, ↓reduceIte]
      simp only [inR]
def r2Go (ws : A4 (List TWord)) : Option Int → List TSess → Bool
  | _, [] => true
  | none, s :: t => sessMay ws s && r2Go ws (some s.id) t
  | some v, s :: t => sessMay ws s && decide (v < s.id) && r2Go ws (some s.id) t
theorem r2Go_eq (ws : A4 (List TWord)) : ∀ (l : List TSess) (o : Option Int), r2Go ws o l = (idsGo o l && l.all (sessMay ws))
  | [], o => by cases o <;> rfl
  | a :: l, none => by simp only [r2Go, idsGo, List.all_cons, r2Go_eq ws l]; cases sessMay ws a <;> cases idsGo (some a.id) l <;> simp
  | a :: l, some v => by simp only [r2Go, idsGo, List.all_cons, r2Go_eq ws l]; cases sessMay ws a <;> cases idsGo (some a.id) l <;> cases decide (v < a.id) <;> simp


theorem lr_may2 (i k : Nat) (pf : Bool) (m : TMach) (hm : SmM m) (q : Out → St → Option Ans) (Q : V → Hp → Nat → Prop) (u : Dum (fun s q => evC ctx (Lv ctx (i + 6)) (pureOf (Lv ctx (i + 6))) k c26_2 s (restK [1, 4] q))) (w : Dum q) : ∀ (suf pre : List TSess) (kk : Nat), m.sess = pre ++ suf → suf.length < kk →
    GL 0 [1, 4] (fun s q => evC ctx (Lv ctx (i + 6)) (pureOf (Lv ctx (i + 6))) k c26_2 s (restK [1, 4] q)) q kk ⟨ofLive [1, 4] [.ip pf (cM pf m) 0, iV pre.length], emptyHp, 0⟩ Q u w = boolP (r2Go m.words (pre.getLast?.map (·.id)) suf) (Fin (q (.exit 2) ⟨ofLive [1] [.ip pf (cM pf m) 0], emptyHp, 0⟩) Q) (Fin (q .ret ⟨ofLive [2] [bV false], emptyHp, 0⟩) Q)
  | [], pre, kk, hxs, hk => by
    obtain ⟨kk, rfl⟩ : ∃ m, kk = m + 1 := ⟨kk - 1, by simp at hk; omega⟩
    have h1 : decide ((pre.length : Int) < m.sess.length) = false := by simp [hxs]
    have h2 : ∀ o, r2Go m.words o [] = true := fun o => by cases o <;> rfl
    simp (config := { contextual := true, dsimp := false, implicitDefEqProofs := false, maxSteps := 5000000 }) only [gLs, ↓un_c (c26_2.eq_1), h1, boolP_t, h2, go_sem, Nat.reduceEqDiff, Nat.reduceAdd, Nat.reduceLeDiff, Nat.reduceMul, Nat.reduceLT, Nat.reduceBEq, Int.reduceLT, Int.reduceLE, Int.reduceToNat, Int.reduceAdd, Int.reduceSub, Int.reduceEq, Int.reduceNeg, ↓reduceIte]
  | a :: suf, pre, kk, hxs, hk => by
    obtain ⟨kk, rfl⟩ : ∃ m, kk = m + 1 := ⟨kk - 1, by simp at hk; omega⟩
    have hl : pre.length < m.sess.length := by simp [hxs]
    have h2 : ((pre.length : Int) < m.sess.length) = True := by simpa using hl
    have h3 : (0 ≤ (pre.length : Int)) = True := by simp
    have h4 := wrN pre.length (by have := hm.ss; omega)
    have hg : m.sess[pre.length]? = some a := by simp [hxs]
    have hs := r_sessMay (i + 0) pf pf m a (hm.s a (by simp [hxs]))
    simp only [Nat.add_assoc, Nat.reduceAdd, eS] at hs
    have ih := lr_may2 i k pf m hm q Q u w suf (pre ++ [a]) kk (by simp [hxs]) (by simpa using hk)
    rw [append_len1] at ih
    simp only [List.getLast?_append, List.getLast?_singleton, Option.some_or, Option.map_some] at ih
    rcases List.eq_nil_or_concat pre with rfl | ⟨L, v, rfl⟩
    · simp only [List.length_nil, cast0] at *
      simp only [Nat.zero_add, cast1] at ih
      cases c1 : sessMay m.words a <;> simp (config := { contextual := true, dsimp := false, implicitDefEqProofs := false, maxSteps := 5000000 }) only [gLs, ↓un_c (c26_2.eq_1), h2, h3, h4, hg, hs, c1, ih, r2Go, boolP_f, List.getLast?_nil, go_sem, Nat.reduceEqDiff, Nat.reduceAdd, Nat.reduceLeDiff, Nat.reduceMul, Nat.reduceLT, Nat.reduceBEq, Int.reduceLT, Int.reduceLE, Int.reduceToNat, Int.reduceAdd, Int.reduceSub, Int.reduceEq, Int.reduceNeg, ↓reduceIte]
    · have hlen : (L.concat v).length = L.length + 1 := by simp
      have hlast : (L.concat v).getLast? = some v := by simp
      rw [hlen] at h2 h3 h4 hg ih
      rw [hlen, hlast]
      have h6 : IntKind.wrap .i64 (((L.length + 1 : Nat) : Int) - 1) = (L.length : Int) := by
        have := wr_id (a := (L.length : Int)) (by omega) (by have := hm.ss; simp [hlen] at hl; simp only [BB] at this; omega)
        simp only [wr] at this
        rw [show (((L.length + 1 : Nat) : Int) - 1) = (L.length : Int) by omega, this]
      have h7 : ((L.length : Int) < m.sess.length) = True := by simp only [eq_iff_iff, iff_true]; rw [hlen] at hl; omega
      have h8 : (0 ≤ (L.length : Int)) = True := by simp
      have h9 : decide (0 < ((L.length + 1 : Nat) : Int)) = true := by simp only [decide_eq_true_eq]; omega
      have hg' : m.sess[L.length]? = some v := by simp [hxs]
      cases c1 : sessMay m.words a
      · simp (config := { contextual := true, dsimp := false, implicitDefEqProofs := false, maxSteps := 5000000 }) only [gLs, ↓un_c (c26_2.eq_1), h2, h3, h4, hg, hs, c1, r2Go, boolP_f, go_sem, Nat.reduceEqDiff, Nat.reduceAdd, Nat.reduceLeDiff, Nat.reduceMul, Nat.reduceLT, Nat.reduceBEq, Int.reduceLT, Int.reduceLE, Int.reduceToNat, Int.reduceAdd, Int.reduceSub, Int.reduceEq, Int.reduceNeg, ↓reduceIte]
      · by_cases hlt : v.id < a.id
        · have c2 : decide (a.id ≤ v.id) = false := by simp; omega
          have c3 : decide (v.id < a.id) = true := by simp; omega
          simp (config := { contextual := true, dsimp := false, implicitDefEqProofs := false, maxSteps := 5000000 }) only [gLs, ↓un_c (c26_2.eq_1), h2, h3, h4, h6, h7, h8, h9, hg, hg', hs, c1, c2, c3, ih, r2Go, go_sem, Nat.reduceEqDiff, Nat.reduceAdd, Nat.reduceLeDiff, Nat.reduceMul, Nat.reduceLT, Nat.reduceBEq, Int.reduceLT, Int.reduceLE, Int.reduceToNat, Int.reduceAdd, Int.reduceSub, Int.reduceEq, Int.reduceNeg, ↓reduceIte]
        · have c2 : decide (a.id ≤ v.id) = true := by simp; omega
          have c3 : decide (v.id < a.id) = false := by simp; omega
          simp (config := { contextual := true, dsimp := false, implicitDefEqProofs := false, maxSteps := 5000000 }) only [gLs, ↓un_c (c26_2.eq_1), h2, h3, h4, h6, h7, h8, h9, hg, hg', hs, c1, c2, c3, r2Go, boolP_f, go_sem, Nat.reduceEqDiff, Nat.reduceAdd, Nat.reduceLeDiff, Nat.reduceMul, Nat.reduceLT, Nat.reduceBEq, Int.reduceLT, Int.reduceLE, Int.reduceToNat, Int.reduceAdd, Int.reduceSub, Int.reduceEq, Int.reduceNeg, ↓reduceIte]


theorem lr_may3 (i k : Nat) (pf : Bool) (m : TMach) (hm : SmM m) (q : Out → St → Option Ans) (Q : V → Hp → Nat → Prop) (u : Dum (fun s q => evC ctx (Lv ctx (i + 6)) (pureOf (Lv ctx (i + 6))) k c26_3 s (restK [1, 5] q))) (w : Dum q) : ∀ (suf pre : List TEvent) (kk : Nat), m.trace = pre ++ suf → suf.length < kk →
    GL 0 [1, 5] (fun s q => evC ctx (Lv ctx (i + 6)) (pureOf (Lv ctx (i + 6))) k c26_3 s (restK [1, 5] q)) q kk ⟨ofLive [1, 5] [.ip pf (cM pf m) 0, iV pre.length], emptyHp, 0⟩ Q u w = boolP (suf.all fun a => inR a.label 3) (Fin (q (.exit 4) ⟨ofLive [] [], emptyHp, 0⟩) Q) (Fin (q .ret ⟨ofLive [2] [bV false], emptyHp, 0⟩) Q)
  | [], pre, kk, hxs, hk => by
    obtain ⟨kk, rfl⟩ : ∃ m, kk = m + 1 := ⟨kk - 1, by simp at hk; omega⟩
    have h1 : decide ((pre.length : Int) < (m.trace).length) = false := by simp [hxs]
    simp (config := { contextual := true, dsimp := false, implicitDefEqProofs := false, maxSteps := 5000000 }) only [gLs, ↓un_c (c26_3.eq_1), h1, boolP_t, List.all_nil, go_sem, Nat.reduceEqDiff, Nat.reduceAdd, Nat.reduceLeDiff, Nat.reduceMul, Nat.reduceLT, Nat.reduceBEq, Int.reduceLT, Int.reduceLE, Int.reduceToNat, Int.reduceAdd, Int.reduceSub, Int.reduceEq, Int.reduceNeg, ↓reduceIte]
  | a :: suf, pre, kk, hxs, hk => by
    obtain ⟨kk, rfl⟩ : ∃ m, kk = m + 1 := ⟨kk - 1, by simp at hk; omega⟩
    have hl : pre.length < (m.trace).length := by simp [hxs]
    have h2 : ((pre.length : Int) < (m.trace).length) = True := by simpa using hl
    have h3 : (0 ≤ (pre.length : Int)) = True := by simp
    have h4 := wrN pre.length (by have := hm.tr; omega)
    have hg : (m.trace)[pre.length]? = some a := by simp [hxs]
    have hmem : a ∈ m.trace := by simp [hxs]
    have ih := lr_may3 i k pf m hm q Q u w suf (pre ++ [a]) kk (by simp [hxs]) (by simpa using hk)
    rw [append_len1] at ih
    simp only [List.all_cons]
    cases hb : (inR a.label 3)
    · rw [Bool.false_and]
      repeat simp (config := { contextual := true, dsimp := false, implicitDefEqProofs := false, maxSteps := 5000000 }) only [gLs, ↓un_c (c26_3.eq_1), h2, h3, h4, hg, hb, boolP_f, go_sem, Nat.reduceEqDiff, Nat.reduceAdd, Nat.reduceLeDiff, Nat.reduceMul, Nat.reduceLT, Nat.reduceBEq, Int.reduceLT, Int.reduceLE, Int.reduceToNat, Int.reduceAdd, Int.reduceSub, Int.reduceEq, Int.reduceNeg, ↓reduceIte]
    · rw [Bool.true_and]
      repeat simp (config := { contextual := true, dsimp := false, implicitDefEqProofs := false, maxSteps := 5000000 }) only [gLs, ↓un_c (c26_3.eq_1), h2, h3, h4, hg, hb, ih, go_sem, Nat.reduceEqDiff, Nat.reduceAdd, Nat.reduceLeDiff, Nat.reduceMul, Nat.reduceLT, Nat.reduceBEq, Int.reduceLT, Int.reduceLE, Int.reduceToNat, Int.reduceAdd, Int.reduceSub, Int.reduceEq, Int.reduceNeg, ↓reduceIte]


theorem r_may (i : Nat) (pf : Bool) (m : TMach) (hm : SmM m) : pureOf (Lv ctx (i + 7)) 26 [eM pf m] = some (bV (mayM m)) := by
  have ha := r_arena (i + 2) pf pf pf pf false false false false m.words.a0 m.words.a1 m.words.a2 m.words.a3 hm.w0 hm.w1 hm.w2 hm.w3
  have h2 := fun q Q u w => lr_may2 i (m.sess.length + m.trace.length + 5) pf m hm q Q u w m.sess [] (m.sess.length + m.trace.length + 5) rfl (by omega)
  have h3 := fun q Q u w => lr_may3 i (m.sess.length + m.trace.length + 5) pf m hm q Q u w m.trace [] (m.sess.length + m.trace.length + 5) rfl (by omega)
  simp only [Nat.add_assoc, Nat.reduceAdd] at ha
  simp only [List.length_nil, Int.natCast_zero, List.getLast?_nil, Option.map_none, r2Go_eq] at h2 h3
  have h5 : decide (4 < (m.sess.length : Int)) = !decide (m.sess.length ≤ 4) := decide_gt4 _
  have h6 : decide (512 < (m.trace.length : Int)) = !decide (m.trace.length ≤ 512) := by
    by_cases h : m.trace.length ≤ 512 <;> simp [h] <;> omega
  have hb : ∀ a b c d : Bool, (!a || !b || !c || !d) = !(a && b && c && d) := by decide
  have ho := fun q k s Q u w => gLs 0 [1, 3] (fun s q => evC ctx (Lv ctx (i + 6)) (pureOf (Lv ctx (i + 6))) (m.sess.length + m.trace.length + 5) c26_1 s (restK [1, 3] q)) q k s Q u w
  refine sp_of rfl (m.sess.length + m.trace.length + 5) (by rfl) ?_
  delta c26
  cases c1 : (arenaMay m.words && inR m.ceil 65535 && decide (m.sess.length ≤ 4) && decide (m.trace.length ≤ 512))
  · have key : mayM m = false := by
      rw [← Bool.not_eq_true] at c1 ⊢
      intro h
      simp only [mayM, Bool.and_eq_true] at h c1
      exact c1 (by simp only [h, and_self])
    simp (config := { contextual := true, dsimp := false, implicitDefEqProofs := false, maxSteps := 5000000 }) only [ha, h5, h6, hb, c1, key, go_sem, Nat.reduceEqDiff, Nat.reduceAdd, Nat.reduceLeDiff, Nat.reduceMul, Nat.reduceLT, Nat.reduceBEq, Int.reduceLT, Int.reduceLE, Int.reduceToNat, Int.reduceAdd, Int.reduceSub, Int.reduceEq, Int.reduceNeg, ↓reduceIte]
  · have key : mayM m = (m.clocks.all (fun c => inR c m.ceil) && (idsGo none m.sess && m.sess.all (sessMay m.words)) && m.trace.all (fun e => inR e.label 3)) := by
      rw [Bool.eq_iff_iff]
      simp only [Bool.and_eq_true] at c1
      simp only [mayM, Bool.and_eq_true, c1, true_and, and_true]
      constructor <;> (intro h; simp only [h, and_self])
    rw [key]
    have hf : ∀ a b : Int, (decide (0 ≤ a) && decide (a ≤ b)) = inR a b := fun _ _ => (rfl)
    cases d0 : inR m.clocks.a0 m.ceil
    · simp (config := { contextual := true, dsimp := false, implicitDefEqProofs := false, maxSteps := 5000000 }) only [ha, h5, h6, hb, c1, ho, ↓un_c (c26_1.eq_1), A4.all, hf, d0, go_sem, Nat.reduceEqDiff, Nat.reduceAdd, Nat.reduceLeDiff, Nat.reduceMul, Nat.reduceLT, Nat.reduceBEq, Int.reduceLT, Int.reduceLE, Int.reduceToNat, Int.reduceAdd, Int.reduceSub, Int.reduceEq, Int.reduceNeg, ↓reduceIte]
    · cases d1 : inR m.clocks.a1 m.ceil
      · simp (config := { contextual := true, dsimp := false, implicitDefEqProofs := false, maxSteps := 5000000 }) only [ha, h5, h6, hb, c1, ho, ↓un_c (c26_1.eq_1), A4.all, hf, d0, d1, go_sem, Nat.reduceEqDiff, Nat.reduceAdd, Nat.reduceLeDiff, Nat.reduceMul, Nat.reduceLT, Nat.reduceBEq, Int.reduceLT, Int.reduceLE, Int.reduceToNat, Int.reduceAdd, Int.reduceSub, Int.reduceEq, Int.reduceNeg, ↓reduceIte]
      · cases d2 : inR m.clocks.a2 m.ceil
        · simp (config := { contextual := true, dsimp := false, implicitDefEqProofs := false, maxSteps := 5000000 }) only [ha, h5, h6, hb, c1, ho, ↓un_c (c26_1.eq_1), A4.all, hf, d0, d1, d2, go_sem, Nat.reduceEqDiff, Nat.reduceAdd, Nat.reduceLeDiff, Nat.reduceMul, Nat.reduceLT, Nat.reduceBEq, Int.reduceLT, Int.reduceLE, Int.reduceToNat, Int.reduceAdd, Int.reduceSub, Int.reduceEq, Int.reduceNeg, ↓reduceIte]
        · cases d3 : inR m.clocks.a3 m.ceil
          · simp (config := { contextual := true, dsimp := false, implicitDefEqProofs := false, maxSteps := 5000000 }) only [ha, h5, h6, hb, c1, ho, ↓un_c (c26_1.eq_1), A4.all, hf, d0, d1, d2, d3, go_sem, Nat.reduceEqDiff, Nat.reduceAdd, Nat.reduceLeDiff, Nat.reduceMul, Nat.reduceLT, Nat.reduceBEq, Int.reduceLT, Int.reduceLE, Int.reduceToNat, Int.reduceAdd, Int.reduceSub, Int.reduceEq, Int.reduceNeg, ↓reduceIte]
          · simp (config := { contextual := true, dsimp := false, implicitDefEqProofs := false, maxSteps := 5000000 }) only [ha, h5, h6, hb, c1, ho, ↓un_c (c26_1.eq_1), A4.all, hf, d0, d1, d2, d3, go_sem, Nat.reduceEqDiff, Nat.reduceAdd, Nat.reduceLeDiff, Nat.reduceMul, Nat.reduceLT, Nat.reduceBEq, Int.reduceLT, Int.reduceLE, Int.reduceToNat, Int.reduceAdd, Int.reduceSub, Int.reduceEq, Int.reduceNeg, ↓reduceIte]
            refine Eq.mpr (h2 _ _ _ _) ?_
            cases e2 : (idsGo none m.sess && m.sess.all (sessMay m.words))
            · simp (config := { contextual := true, dsimp := false, implicitDefEqProofs := false, maxSteps := 5000000 }) only [boolP_f, go_sem, Nat.reduceEqDiff, Nat.reduceAdd, Nat.reduceLeDiff, Nat.reduceMul, Nat.reduceLT, Nat.reduceBEq, Int.reduceLT, Int.reduceLE, Int.reduceToNat, Int.reduceAdd, Int.reduceSub, Int.reduceEq, Int.reduceNeg, ↓reduceIte]
            · simp (config := { contextual := true, dsimp := false, implicitDefEqProofs := false, maxSteps := 5000000 }) only [boolP_t, go_sem, Nat.reduceEqDiff, Nat.reduceAdd, Nat.reduceLeDiff, Nat.reduceMul, Nat.reduceLT, Nat.reduceBEq, Int.reduceLT, Int.reduceLE, Int.reduceToNat, Int.reduceAdd, Int.reduceSub, Int.reduceEq, Int.reduceNeg, ↓reduceIte]
              refine Eq.mpr (h3 _ _ _ _) ?_
              cases e3 : (m.trace.all fun a => inR a.label 3) <;> simp (config := { contextual := true, dsimp := false, implicitDefEqProofs := false, maxSteps := 5000000 }) only [boolP_t, boolP_f, go_sem, Nat.reduceEqDiff, Nat.reduceAdd, Nat.reduceLeDiff, Nat.reduceMul, Nat.reduceLT, Nat.reduceBEq, Int.reduceLT, Int.reduceLE, Int.reduceToNat, Int.reduceAdd, Int.reduceSub, Int.reduceEq, Int.reduceNeg, ↓reduceIte]
theorem r_here (i : Nat) (pf : Bool) (m : TMach) (at_ : Int) (hm : SmM m) : pureOf (Lv ctx (i + 8)) 40 [eM pf m, iV at_] = some (bV (hereM m at_)) := by
  have h1 := r_may i pf m hm
  refine sp_of rfl 0 (by rfl) ?_
  delta c40
  simp (config := { contextual := true, dsimp := false, implicitDefEqProofs := false, maxSteps := 5000000 }) only [h1, hereM, go_sem, Nat.reduceEqDiff, Nat.reduceAdd, Nat.reduceLeDiff, Nat.reduceMul, Nat.reduceLT, Nat.reduceBEq, Int.reduceLT, Int.reduceLE, Int.reduceToNat, Int.reduceAdd, Int.reduceSub, Int.reduceEq, Int.reduceNeg, ↓reduceIte]
end Ve

/- Copies: the reference's, the statements'. -/
namespace Ve
open Go Ve.Ab
set_option maxRecDepth 10000
set_option linter.unusedSimpArgs false
set_option linter.unusedVariables false
attribute [go_sem] List.replicate List.length_append Nat.zero_add List.length_cons


@[go_sem] theorem r_arenaCopy (i : Nat) (p : Bool) (w0 w1 w2 w3 : List TWord) (h0 : (w0.length : Int) * 24 ≤ 140737488355328) (h1 : (w1.length : Int) * 24 ≤ 140737488355328) (h2 : (w2.length : Int) * 24 ≤ 140737488355328) (h3 : (w3.length : Int) * 24 ≤ 140737488355328) : pureOf (Lv ctx (i + 1)) 88 [.agg [eWs p w0, eWs p w1, eWs p w2, eWs p w3]] = some (.agg [oWs w0, oWs w1, oWs w2, oWs w3]) := by
  have e0 : ((w0.length : Int) * ((24 : Nat) : Int) ≤ 140737488355328) = True := by simpa using h0
  have e1 : ((w1.length : Int) * ((24 : Nat) : Int) ≤ 140737488355328) = True := by simpa using h1
  have e2 : ((w2.length : Int) * ((24 : Nat) : Int) ≤ 140737488355328) = True := by simpa using h2
  have e3 : ((w3.length : Int) * ((24 : Nat) : Int) ≤ 140737488355328) = True := by simpa using h3
  refine sp_of rfl 5 (by rfl) ?_
  delta c88
  cases p <;> simp (config := { contextual := true, dsimp := false, implicitDefEqProofs := false, maxSteps := 5000000 }) only [gLs, ↓un_c (c88_1.eq_1), e0, e1, e2, e3, go_sem, Nat.reduceEqDiff, Nat.reduceAdd, Nat.reduceLeDiff, Nat.reduceMul, Nat.reduceLT, Nat.reduceBEq, Int.reduceLT, Int.reduceLE, Int.reduceToNat, Int.reduceAdd, Int.reduceSub, Int.reduceEq, Int.reduceNeg, ↓reduceIte]


@[go_sem] theorem w_arenaCopy (i : Nat) (p : Bool) (w0 w1 w2 w3 : List TWord) (h0 : (w0.length : Int) * 24 ≤ 140737488355328) (h1 : (w1.length : Int) * 24 ≤ 140737488355328) (h2 : (w2.length : Int) * 24 ≤ 140737488355328) (h3 : (w3.length : Int) * 24 ≤ 140737488355328) : pureOf (Lv ctx (i + 1)) 34 [.agg [eWs p w0, eWs p w1, eWs p w2, eWs p w3]] = some (.agg [oWs w0, oWs w1, oWs w2, oWs w3]) := by
  have e0 : ((w0.length : Int) * ((24 : Nat) : Int) ≤ 140737488355328) = True := by simpa using h0
  have e1 : ((w1.length : Int) * ((24 : Nat) : Int) ≤ 140737488355328) = True := by simpa using h1
  have e2 : ((w2.length : Int) * ((24 : Nat) : Int) ≤ 140737488355328) = True := by simpa using h2
  have e3 : ((w3.length : Int) * ((24 : Nat) : Int) ≤ 140737488355328) = True := by simpa using h3
  refine sp_of rfl 5 (by rfl) ?_
  delta c34
  cases p <;> simp (config := { contextual := true, dsimp := false, implicitDefEqProofs := false, maxSteps := 5000000 }) only [gLs, ↓un_c (c34_1.eq_1), e0, e1, e2, e3, go_sem, Nat.reduceEqDiff, Nat.reduceAdd, Nat.reduceLeDiff, Nat.reduceMul, Nat.reduceLT, Nat.reduceBEq, Int.reduceLT, Int.reduceLE, Int.reduceToNat, Int.reduceAdd, Int.reduceSub, Int.reduceEq, Int.reduceNeg, ↓reduceIte]


@[go_sem] theorem r_session (i : Nat) (pf : Bool) (s : TSess) (hs : SmS s) : pureOf (Lv ctx (i + 1)) 89 [eS pf s] = some (oS s) := by
  have h1 : ((s.prog.length : Int) * ((32 : Nat) : Int) ≤ 140737488355328) = True := by simpa using hs.bp
  have h2 : ((s.reads.length : Int) * ((24 : Nat) : Int) ≤ 140737488355328) = True := by simpa using hs.br
  have h3 : ((s.writes.length : Int) * ((24 : Nat) : Int) ≤ 140737488355328) = True := by simpa using hs.bw
  simp only [eS]
  refine sp_of rfl 0 (by rfl) ?_
  delta c89
  cases pf <;> simp (config := { contextual := true, dsimp := false, implicitDefEqProofs := false, maxSteps := 5000000 }) only [h1, h2, h3, go_sem, Nat.reduceEqDiff, Nat.reduceAdd, Nat.reduceLeDiff, Nat.reduceMul, Nat.reduceLT, Nat.reduceBEq, Int.reduceLT, Int.reduceLE, Int.reduceToNat, Int.reduceAdd, Int.reduceSub, Int.reduceEq, Int.reduceNeg, ↓reduceIte]


@[go_sem] theorem w_session (i : Nat) (pf : Bool) (s : TSess) (hs : SmS s) : pureOf (Lv ctx (i + 1)) 35 [eS pf s] = some (oS s) := by
  have h1 : ((s.prog.length : Int) * ((32 : Nat) : Int) ≤ 140737488355328) = True := by simpa using hs.bp
  have h2 : ((s.reads.length : Int) * ((24 : Nat) : Int) ≤ 140737488355328) = True := by simpa using hs.br
  have h3 : ((s.writes.length : Int) * ((24 : Nat) : Int) ≤ 140737488355328) = True := by simpa using hs.bw
  simp only [eS]
  refine sp_of rfl 0 (by rfl) ?_
  delta c35
  cases pf <;> simp (config := { contextual := true, dsimp := false, implicitDefEqProofs := false, maxSteps := 5000000 }) only [h1, h2, h3, go_sem, Nat.reduceEqDiff, Nat.reduceAdd, Nat.reduceLeDiff, Nat.reduceMul, Nat.reduceLT, Nat.reduceBEq, Int.reduceLT, Int.reduceLE, Int.reduceToNat, Int.reduceAdd, Int.reduceSub, Int.reduceEq, Int.reduceNeg, ↓reduceIte]


abbrev hR (pf d : Bool) (m : TMach) (els : List V) : Hp :=
  pO (pO (pO (pO (pO (pO emptyHp 0 (some ⟨11, [zM], false⟩)) 1 (some ⟨11, [.agg [.sl 2, .sl 3, .sl 4, .sl 5, iV m.clocks.a0, iV m.clocks.a1, iV m.clocks.a2, iV m.clocks.a3, iV m.ceil, .own 17 els, eEs pf m.trace]], d⟩))
    2 (some ⟨3, m.words.a0.map eW, false⟩)) 3 (some ⟨3, m.words.a1.map eW, false⟩)) 4 (some ⟨3, m.words.a2.map eW, false⟩)) 5 (some ⟨3, m.words.a3.map eW, false⟩)


theorem lr_copy (i k : Nat) (pf : Bool) (m : TMach) (hm : SmM m) (q : Out → St → Option Ans) (Q : V → Hp → Nat → Prop) : ∀ (suf pre : List TSess) (kk : Nat), m.sess = pre ++ suf → suf.length < kk + 1 →
    Fin (evC ctx (Lv ctx (i + 1)) (pureOf (Lv ctx (i + 1))) k c58_1 ⟨ofLive [1, 2, 3, 4] [.ip pf (cM pf m) 0, .ptr 0 0 0, .ptr 1 0 0, iV pre.length], hR pf true m (pre.map oS), 6⟩
      (restK [1, 2, 3, 4] fun o s => thenK (evLoop 6 [1, 2, 3, 4] (fun s q => evC ctx (Lv ctx (i + 1)) (pureOf (Lv ctx (i + 1))) k c58_1 s (restK [1, 2, 3, 4] q)) q kk) q o s)) Q =
    Fin (q (.exit 0) ⟨ofLive [1, 2, 3] [.ip pf (cM pf m) 0, .ptr 0 0 0, .ptr 1 0 0], hR pf true m (m.sess.map oS), 6⟩) Q
  | [], pre, kk, hxs, hk => by
    have h1 : decide ((pre.length : Int) < m.sess.length) = false := by simp [hxs]
    have h2 : m.sess = pre := by simp [hxs]
    rw [un_c (c58_1.eq_1)]
    simp (config := { contextual := true, dsimp := false, implicitDefEqProofs := false, maxSteps := 5000000 }) only [h1, go_sem, Nat.reduceEqDiff, Nat.reduceAdd, Nat.reduceLeDiff, Nat.reduceMul, Nat.reduceLT, Nat.reduceBEq, Int.reduceLT, Int.reduceLE, Int.reduceToNat, Int.reduceAdd, Int.reduceSub, Int.reduceEq, Int.reduceNeg, ↓reduceIte]
    rw [h2]
  | a :: suf, pre, kk, hxs, hk => by
    obtain ⟨kk, rfl⟩ : ∃ m, kk = m + 1 := ⟨kk - 1, by simp at hk; omega⟩
    have hl : pre.length < m.sess.length := by simp [hxs]
    have h2 : ((pre.length : Int) < m.sess.length) = True := by simpa using hl
    have h3 : (0 ≤ (pre.length : Int)) = True := by simp
    have h4 := wrN pre.length (by have := hm.ss; omega)
    have hg : m.sess[pre.length]? = some a := by simp [hxs]
    have h5 : (((pre.length + 1 : Nat) : Int) * ((184 : Nat) : Int) ≤ 140737488355328) = True := by
      have := hm.bs
      simp only [eq_iff_iff, iff_true]
      have : pre.length + 1 ≤ m.sess.length := hl
      omega
    have hs := r_session (i + 0) pf a (hm.s a (by simp [hxs]))
    have ih := lr_copy i k pf m hm q Q suf (pre ++ [a]) kk (by simp [hxs]) (by simpa using hk)
    simp only [append_len1, List.map_append, List.map_cons, List.map_nil, oS] at ih
    simp only [Nat.add_assoc, Nat.reduceAdd, eS] at hs
    rw [un_c (c58_1.eq_1)]
    cases pf <;> simp (config := { contextual := true, dsimp := false, implicitDefEqProofs := false, maxSteps := 5000000 }) only [h2, h3, h4, h5, hg, hs, gLs, go_sem, Nat.reduceEqDiff, Nat.reduceAdd, Nat.reduceLeDiff, Nat.reduceMul, Nat.reduceLT, Nat.reduceBEq, Int.reduceLT, Int.reduceLE, Int.reduceToNat, Int.reduceAdd, Int.reduceSub, Int.reduceEq, Int.reduceNeg, ↓reduceIte] <;> exact ih
theorem r_copy (i : Nat) (pf : Bool) (m : TMach) (hm : SmM m) : pureOf (Lv ctx (i + 2)) 58 [eM pf m] = some (oM m) := by
  have b0 := hm.b0
  have b1 := hm.b1
  have b2 := hm.b2
  have b3 := hm.b3
  have e5 : ((m.trace.length : Int) * ((32 : Nat) : Int) ≤ 140737488355328) = True := by simpa using hm.bt
  refine sp_of rfl (m.sess.length + 1) (by rfl) ?_
  delta c58
  have hl := fun q Q => lr_copy i (m.sess.length + 1) pf m hm q Q m.sess [] m.sess.length rfl (by omega)
  simp only [List.length_nil, Int.natCast_zero, List.map_nil] at hl
  cases pf
  · simp (config := { contextual := true, dsimp := false, implicitDefEqProofs := false, maxSteps := 5000000 }) only [b0, b1, b2, b3, e5, gLs, go_sem, Nat.reduceEqDiff, Nat.reduceAdd, Nat.reduceLeDiff, Nat.reduceMul, Nat.reduceLT, Nat.reduceBEq, Int.reduceLT, Int.reduceLE, Int.reduceToNat, Int.reduceAdd, Int.reduceSub, Int.reduceEq, Int.reduceNeg, ↓reduceIte]
    refine Eq.mpr (hl _ _) ?_
    simp (config := { contextual := true, dsimp := false, implicitDefEqProofs := false, maxSteps := 5000000 }) only [e5, go_sem, Nat.reduceEqDiff, Nat.reduceAdd, Nat.reduceLeDiff, Nat.reduceMul, Nat.reduceLT, Nat.reduceBEq, Int.reduceLT, Int.reduceLE, Int.reduceToNat, Int.reduceAdd, Int.reduceSub, Int.reduceEq, Int.reduceNeg, ↓reduceIte]
  · simp (config := { contextual := true, dsimp := false, implicitDefEqProofs := false, maxSteps := 5000000 }) only [b0, b1, b2, b3, e5, gLs, go_sem, Nat.reduceEqDiff, Nat.reduceAdd, Nat.reduceLeDiff, Nat.reduceMul, Nat.reduceLT, Nat.reduceBEq, Int.reduceLT, Int.reduceLE, Int.reduceToNat, Int.reduceAdd, Int.reduceSub, Int.reduceEq, Int.reduceNeg, ↓reduceIte]
    refine Eq.mpr (hl _ _) ?_
    simp (config := { contextual := true, dsimp := false, implicitDefEqProofs := false, maxSteps := 5000000 }) only [e5, go_sem, Nat.reduceEqDiff, Nat.reduceAdd, Nat.reduceLeDiff, Nat.reduceMul, Nat.reduceLT, Nat.reduceBEq, Int.reduceLT, Int.reduceLE, Int.reduceToNat, Int.reduceAdd, Int.reduceSub, Int.reduceEq, Int.reduceNeg, ↓reduceIte]


theorem lw_copy (i k : Nat) (pf : Bool) (m : TMach) (hm : SmM m) (q : Out → St → Option Ans) (Q : V → Hp → Nat → Prop) : ∀ (suf pre : List TSess) (kk : Nat), m.sess = pre ++ suf → suf.length < kk + 1 →
    Fin (evC ctx (Lv ctx (i + 1)) (pureOf (Lv ctx (i + 1))) k c14_1 ⟨ofLive [1, 2, 3, 4] [.ip pf (cM pf m) 0, .ptr 0 0 0, .ptr 1 0 0, iV pre.length], hR pf true m (pre.map oS), 6⟩
      (restK [1, 2, 3, 4] fun o s => thenK (evLoop 6 [1, 2, 3, 4] (fun s q => evC ctx (Lv ctx (i + 1)) (pureOf (Lv ctx (i + 1))) k c14_1 s (restK [1, 2, 3, 4] q)) q kk) q o s)) Q =
    Fin (q (.exit 0) ⟨ofLive [1, 2, 3] [.ip pf (cM pf m) 0, .ptr 0 0 0, .ptr 1 0 0], hR pf true m (m.sess.map oS), 6⟩) Q
  | [], pre, kk, hxs, hk => by
    have h1 : decide ((pre.length : Int) < m.sess.length) = false := by simp [hxs]
    have h2 : m.sess = pre := by simp [hxs]
    rw [un_c (c14_1.eq_1)]
    simp (config := { contextual := true, dsimp := false, implicitDefEqProofs := false, maxSteps := 5000000 }) only [h1, go_sem, Nat.reduceEqDiff, Nat.reduceAdd, Nat.reduceLeDiff, Nat.reduceMul, Nat.reduceLT, Nat.reduceBEq, Int.reduceLT, Int.reduceLE, Int.reduceToNat, Int.reduceAdd, Int.reduceSub, Int.reduceEq, Int.reduceNeg, ↓reduceIte]
    rw [h2]
  | a :: suf, pre, kk, hxs, hk => by
    obtain ⟨kk, rfl⟩ : ∃ m, kk = m + 1 := ⟨kk - 1, by simp at hk; omega⟩
    have hl : pre.length < m.sess.length := by simp [hxs]
    have h2 : ((pre.length : Int) < m.sess.length) = True := by simpa using hl
    have h3 : (0 ≤ (pre.length : Int)) = True := by simp
    have h4 := wrN pre.length (by have := hm.ss; omega)
    have hg : m.sess[pre.length]? = some a := by simp [hxs]
    have h5 : (((pre.length + 1 : Nat) : Int) * ((184 : Nat) : Int) ≤ 140737488355328) = True := by
      have := hm.bs
      simp only [eq_iff_iff, iff_true]
      have : pre.length + 1 ≤ m.sess.length := hl
      omega
    have hs := w_session (i + 0) pf a (hm.s a (by simp [hxs]))
    have ih := lw_copy i k pf m hm q Q suf (pre ++ [a]) kk (by simp [hxs]) (by simpa using hk)
    simp only [append_len1, List.map_append, List.map_cons, List.map_nil, oS] at ih
    simp only [Nat.add_assoc, Nat.reduceAdd, eS] at hs
    rw [un_c (c14_1.eq_1)]
    cases pf <;> simp (config := { contextual := true, dsimp := false, implicitDefEqProofs := false, maxSteps := 5000000 }) only [h2, h3, h4, h5, hg, hs, gLs, go_sem, Nat.reduceEqDiff, Nat.reduceAdd, Nat.reduceLeDiff, Nat.reduceMul, Nat.reduceLT, Nat.reduceBEq, Int.reduceLT, Int.reduceLE, Int.reduceToNat, Int.reduceAdd, Int.reduceSub, Int.reduceEq, Int.reduceNeg, ↓reduceIte] <;> exact ih
theorem w_copy (i : Nat) (pf : Bool) (m : TMach) (hm : SmM m) : pureOf (Lv ctx (i + 2)) 14 [eM pf m] = some (oM m) := by
  have b0 := hm.b0
  have b1 := hm.b1
  have b2 := hm.b2
  have b3 := hm.b3
  have e5 : ((m.trace.length : Int) * ((32 : Nat) : Int) ≤ 140737488355328) = True := by simpa using hm.bt
  refine sp_of rfl (m.sess.length + 1) (by rfl) ?_
  delta c14
  have hl := fun q Q => lw_copy i (m.sess.length + 1) pf m hm q Q m.sess [] m.sess.length rfl (by omega)
  simp only [List.length_nil, Int.natCast_zero, List.map_nil] at hl
  cases pf
  · simp (config := { contextual := true, dsimp := false, implicitDefEqProofs := false, maxSteps := 5000000 }) only [b0, b1, b2, b3, e5, gLs, go_sem, Nat.reduceEqDiff, Nat.reduceAdd, Nat.reduceLeDiff, Nat.reduceMul, Nat.reduceLT, Nat.reduceBEq, Int.reduceLT, Int.reduceLE, Int.reduceToNat, Int.reduceAdd, Int.reduceSub, Int.reduceEq, Int.reduceNeg, ↓reduceIte]
    refine Eq.mpr (hl _ _) ?_
    simp (config := { contextual := true, dsimp := false, implicitDefEqProofs := false, maxSteps := 5000000 }) only [e5, go_sem, Nat.reduceEqDiff, Nat.reduceAdd, Nat.reduceLeDiff, Nat.reduceMul, Nat.reduceLT, Nat.reduceBEq, Int.reduceLT, Int.reduceLE, Int.reduceToNat, Int.reduceAdd, Int.reduceSub, Int.reduceEq, Int.reduceNeg, ↓reduceIte]
  · simp (config := { contextual := true, dsimp := false, implicitDefEqProofs := false, maxSteps := 5000000 }) only [b0, b1, b2, b3, e5, gLs, go_sem, Nat.reduceEqDiff, Nat.reduceAdd, Nat.reduceLeDiff, Nat.reduceMul, Nat.reduceLT, Nat.reduceBEq, Int.reduceLT, Int.reduceLE, Int.reduceToNat, Int.reduceAdd, Int.reduceSub, Int.reduceEq, Int.reduceNeg, ↓reduceIte]
    refine Eq.mpr (hl _ _) ?_
    simp (config := { contextual := true, dsimp := false, implicitDefEqProofs := false, maxSteps := 5000000 }) only [e5, go_sem, Nat.reduceEqDiff, Nat.reduceAdd, Nat.reduceLeDiff, Nat.reduceMul, Nat.reduceLT, Nat.reduceBEq, Int.reduceLT, Int.reduceLE, Int.reduceToNat, Int.reduceAdd, Int.reduceSub, Int.reduceEq, Int.reduceNeg, ↓reduceIte]

end Ve
