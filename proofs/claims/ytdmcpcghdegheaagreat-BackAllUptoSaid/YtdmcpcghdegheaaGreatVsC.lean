/- Undoing: the program's. -/
import Derived.Test.YtdmcpcghdegheaaGreatVsB
set_option linter.all false
set_option linter.unusedSectionVars false
namespace Ve
open Go Ve.Ab
set_option maxRecDepth 10000
set_option linter.unusedSimpArgs false
set_option linter.unusedVariables false
theorem s_mthere (i : Nat) (p pf : Bool) (m : TMach) (at_ : Int) (hm : SmM m) : pureOf (Lv ctx (i + 20)) 36 [.ip p (cM pf m) 0, iV at_] = some (bV (hereM m at_)) := by
  have h1 := s_may i pf m hm
  refine sp_of rfl 0 (by rfl) ?_
  delta c36
  simp (config := { contextual := true, dsimp := false, implicitDefEqProofs := false, maxSteps := 5000000 }) only [h1, hereM, go_sem, Nat.reduceEqDiff, Nat.reduceAdd, Nat.reduceLeDiff, Nat.reduceMul, Nat.reduceLT, Nat.reduceBEq, Int.reduceLT, Int.reduceLE, Int.reduceToNat, Int.reduceAdd, Int.reduceSub, Int.reduceEq, Int.reduceNeg, ↓reduceIte]
abbrev hF (m : TMach) (a1 a2 a3 a4 : List V) : Hp :=
  pO (pO (pO (pO (pO (pO (pO (pO emptyHp 0 (some ⟨11, [zM], false⟩)) 1 (some ⟨3, a1, false⟩)) 2 (some ⟨3, a2, false⟩)) 3 (some ⟨3, a3, false⟩)) 4 (some ⟨3, a4, false⟩)) 5 (some ⟨17, m.sess.map oS, false⟩)) 6 (some ⟨4, m.trace.map eE, false⟩))
    7 (some ⟨11, [.agg [.sl 1, .sl 2, .sl 3, .sl 4, iV m.clocks.a0, iV m.clocks.a1, iV m.clocks.a2, iV m.clocks.a3, iV m.ceil, .sl 5, .sl 6]], true⟩)


theorem l_free0 (i k : Nat) (m : TMach) (hm : SmM m) (id c : Int) (hc : IntKind.wrap .i64 (id + 1) = c) (q : Out → St → Option Ans) (Q : V → Hp → Nat → Prop) : ∀ (suf pre : List TWord) (kk : Nat), m.words.a0 = pre ++ suf → suf.length < kk + 1 →
    Fin (evC ctx (Lv ctx i) (pureOf (Lv ctx i)) k c75_1 ⟨ofLive [0, 1, 4, 5] [.ptr 7 0 0, iV id, iV 0, iV pre.length], hF m ((pre.map (freeW c)).map eW ++ suf.map eW) (m.words.a1.map eW) (m.words.a2.map eW) (m.words.a3.map eW), 8⟩ (restK [0, 1, 4, 5] fun o s => thenK (evLoop 8 [0, 1, 4, 5] (fun s q => evC ctx (Lv ctx i) (pureOf (Lv ctx i)) k c75_1 s (restK [0, 1, 4, 5] q)) q kk) q o s)) Q = Fin (q (.exit 0) ⟨ofLive [0, 1, 4] [.ptr 7 0 0, iV id, iV 0], hF m ((m.words.a0.map (freeW c)).map eW) (m.words.a1.map eW) (m.words.a2.map eW) (m.words.a3.map eW), 8⟩) Q
  | [], pre, kk, hxs, hk => by
    have h1 : decide ((pre.length : Int) < (pre.length : Int)) = false := by simp
    have h2 : m.words.a0 = pre := by simp [hxs]
    rw [un_c (c75_1.eq_1)]
    simp only [List.map_nil, List.append_nil]
    rw [h2]
    simp (config := { contextual := true, dsimp := false, implicitDefEqProofs := false, maxSteps := 5000000 }) only [h1, List.length_map, go_sem, Nat.reduceEqDiff, Nat.reduceAdd, Nat.reduceLeDiff, Nat.reduceMul, Nat.reduceLT, Nat.reduceBEq, Int.reduceLT, Int.reduceLE, Int.reduceToNat, Int.reduceAdd, Int.reduceSub, Int.reduceEq, Int.reduceNeg, ↓reduceIte]
    all_goals (try rfl)
  | a :: suf, pre, kk, hxs, hk => by
    obtain ⟨kk, rfl⟩ : ∃ m, kk = m + 1 := ⟨kk - 1, by simp at hk; omega⟩
    have hl : pre.length < ((pre.map (freeW c)).map eW ++ (a :: suf).map eW).length := by simp
    have h2 : ((pre.length : Int) < ((((pre.map (freeW c)).map eW ++ (a :: suf).map eW).length : Nat) : Int)) = True := by simp; omega
    have h3 : (0 ≤ (pre.length : Int)) = True := by simp
    have h4 := wrN pre.length (by have := hm.w0; rw [hxs] at this; simp at this; omega)
    have hg : ((pre.map (freeW c)).map eW ++ (a :: suf).map eW)[pre.length]? = some (eW a) := by simp
    have hset : ∀ x, ((pre.map (freeW c)).map eW ++ (a :: suf).map eW).set pre.length x = (pre.map (freeW c)).map eW ++ x :: suf.map eW := by intro x; simp [List.set_append]
    have ih := l_free0 i k m hm id c hc q Q suf (pre ++ [a]) kk (by simp [hxs]) (by simpa using hk)
    simp only [append_len1, List.map_append, List.map_cons, List.map_nil, List.append_assoc, List.cons_append, List.nil_append] at ih
    by_cases hlk : a.lock = c
    · have h5 : decide (a.lock = c) = true := by simpa using hlk
      simp only [freeW, hlk, if_true, eW] at ih
      simp only [eW, List.map_cons, freeW] at h2 hg hset ⊢
      rw [un_c (c75_1.eq_1)]
      simp (config := { contextual := true, dsimp := false, implicitDefEqProofs := false, maxSteps := 5000000 }) only [h2, h3, h4, hg, hset, hc, h5, gLs, go_sem, Nat.reduceEqDiff, Nat.reduceAdd, Nat.reduceLeDiff, Nat.reduceMul, Nat.reduceLT, Nat.reduceBEq, Int.reduceLT, Int.reduceLE, Int.reduceToNat, Int.reduceAdd, Int.reduceSub, Int.reduceEq, Int.reduceNeg, ↓reduceIte]
      exact ih
    · have h5 : decide (a.lock = c) = false := by simpa using hlk
      simp only [freeW, hlk, if_false, eW] at ih
      simp only [eW, List.map_cons, freeW] at h2 hg hset ⊢
      rw [un_c (c75_1.eq_1)]
      simp (config := { contextual := true, dsimp := false, implicitDefEqProofs := false, maxSteps := 5000000 }) only [h2, h3, h4, hg, hset, hc, h5, gLs, go_sem, Nat.reduceEqDiff, Nat.reduceAdd, Nat.reduceLeDiff, Nat.reduceMul, Nat.reduceLT, Nat.reduceBEq, Int.reduceLT, Int.reduceLE, Int.reduceToNat, Int.reduceAdd, Int.reduceSub, Int.reduceEq, Int.reduceNeg, ↓reduceIte]
      exact ih


theorem l_free1 (i k : Nat) (m : TMach) (hm : SmM m) (id c : Int) (hc : IntKind.wrap .i64 (id + 1) = c) (q : Out → St → Option Ans) (Q : V → Hp → Nat → Prop) : ∀ (suf pre : List TWord) (kk : Nat), m.words.a1 = pre ++ suf → suf.length < kk + 1 →
    Fin (evC ctx (Lv ctx i) (pureOf (Lv ctx i)) k c75_1 ⟨ofLive [0, 1, 4, 5] [.ptr 7 0 0, iV id, iV 1, iV pre.length], hF m ((m.words.a0.map (freeW c)).map eW) ((pre.map (freeW c)).map eW ++ suf.map eW) (m.words.a2.map eW) (m.words.a3.map eW), 8⟩ (restK [0, 1, 4, 5] fun o s => thenK (evLoop 8 [0, 1, 4, 5] (fun s q => evC ctx (Lv ctx i) (pureOf (Lv ctx i)) k c75_1 s (restK [0, 1, 4, 5] q)) q kk) q o s)) Q = Fin (q (.exit 0) ⟨ofLive [0, 1, 4] [.ptr 7 0 0, iV id, iV 1], hF m ((m.words.a0.map (freeW c)).map eW) ((m.words.a1.map (freeW c)).map eW) (m.words.a2.map eW) (m.words.a3.map eW), 8⟩) Q
  | [], pre, kk, hxs, hk => by
    have h1 : decide ((pre.length : Int) < (pre.length : Int)) = false := by simp
    have h2 : m.words.a1 = pre := by simp [hxs]
    rw [un_c (c75_1.eq_1)]
    simp only [List.map_nil, List.append_nil]
    rw [h2]
    simp (config := { contextual := true, dsimp := false, implicitDefEqProofs := false, maxSteps := 5000000 }) only [h1, List.length_map, go_sem, Nat.reduceEqDiff, Nat.reduceAdd, Nat.reduceLeDiff, Nat.reduceMul, Nat.reduceLT, Nat.reduceBEq, Int.reduceLT, Int.reduceLE, Int.reduceToNat, Int.reduceAdd, Int.reduceSub, Int.reduceEq, Int.reduceNeg, ↓reduceIte]
    all_goals (try rfl)
  | a :: suf, pre, kk, hxs, hk => by
    obtain ⟨kk, rfl⟩ : ∃ m, kk = m + 1 := ⟨kk - 1, by simp at hk; omega⟩
    have hl : pre.length < ((pre.map (freeW c)).map eW ++ (a :: suf).map eW).length := by simp
    have h2 : ((pre.length : Int) < ((((pre.map (freeW c)).map eW ++ (a :: suf).map eW).length : Nat) : Int)) = True := by simp; omega
    have h3 : (0 ≤ (pre.length : Int)) = True := by simp
    have h4 := wrN pre.length (by have := hm.w1; rw [hxs] at this; simp at this; omega)
    have hg : ((pre.map (freeW c)).map eW ++ (a :: suf).map eW)[pre.length]? = some (eW a) := by simp
    have hset : ∀ x, ((pre.map (freeW c)).map eW ++ (a :: suf).map eW).set pre.length x = (pre.map (freeW c)).map eW ++ x :: suf.map eW := by intro x; simp [List.set_append]
    have ih := l_free1 i k m hm id c hc q Q suf (pre ++ [a]) kk (by simp [hxs]) (by simpa using hk)
    simp only [append_len1, List.map_append, List.map_cons, List.map_nil, List.append_assoc, List.cons_append, List.nil_append] at ih
    by_cases hlk : a.lock = c
    · have h5 : decide (a.lock = c) = true := by simpa using hlk
      simp only [freeW, hlk, if_true, eW] at ih
      simp only [eW, List.map_cons, freeW] at h2 hg hset ⊢
      rw [un_c (c75_1.eq_1)]
      simp (config := { contextual := true, dsimp := false, implicitDefEqProofs := false, maxSteps := 5000000 }) only [h2, h3, h4, hg, hset, hc, h5, gLs, go_sem, Nat.reduceEqDiff, Nat.reduceAdd, Nat.reduceLeDiff, Nat.reduceMul, Nat.reduceLT, Nat.reduceBEq, Int.reduceLT, Int.reduceLE, Int.reduceToNat, Int.reduceAdd, Int.reduceSub, Int.reduceEq, Int.reduceNeg, ↓reduceIte]
      exact ih
    · have h5 : decide (a.lock = c) = false := by simpa using hlk
      simp only [freeW, hlk, if_false, eW] at ih
      simp only [eW, List.map_cons, freeW] at h2 hg hset ⊢
      rw [un_c (c75_1.eq_1)]
      simp (config := { contextual := true, dsimp := false, implicitDefEqProofs := false, maxSteps := 5000000 }) only [h2, h3, h4, hg, hset, hc, h5, gLs, go_sem, Nat.reduceEqDiff, Nat.reduceAdd, Nat.reduceLeDiff, Nat.reduceMul, Nat.reduceLT, Nat.reduceBEq, Int.reduceLT, Int.reduceLE, Int.reduceToNat, Int.reduceAdd, Int.reduceSub, Int.reduceEq, Int.reduceNeg, ↓reduceIte]
      exact ih


theorem l_free2 (i k : Nat) (m : TMach) (hm : SmM m) (id c : Int) (hc : IntKind.wrap .i64 (id + 1) = c) (q : Out → St → Option Ans) (Q : V → Hp → Nat → Prop) : ∀ (suf pre : List TWord) (kk : Nat), m.words.a2 = pre ++ suf → suf.length < kk + 1 →
    Fin (evC ctx (Lv ctx i) (pureOf (Lv ctx i)) k c75_1 ⟨ofLive [0, 1, 4, 5] [.ptr 7 0 0, iV id, iV 2, iV pre.length], hF m ((m.words.a0.map (freeW c)).map eW) ((m.words.a1.map (freeW c)).map eW) ((pre.map (freeW c)).map eW ++ suf.map eW) (m.words.a3.map eW), 8⟩ (restK [0, 1, 4, 5] fun o s => thenK (evLoop 8 [0, 1, 4, 5] (fun s q => evC ctx (Lv ctx i) (pureOf (Lv ctx i)) k c75_1 s (restK [0, 1, 4, 5] q)) q kk) q o s)) Q = Fin (q (.exit 0) ⟨ofLive [0, 1, 4] [.ptr 7 0 0, iV id, iV 2], hF m ((m.words.a0.map (freeW c)).map eW) ((m.words.a1.map (freeW c)).map eW) ((m.words.a2.map (freeW c)).map eW) (m.words.a3.map eW), 8⟩) Q
  | [], pre, kk, hxs, hk => by
    have h1 : decide ((pre.length : Int) < (pre.length : Int)) = false := by simp
    have h2 : m.words.a2 = pre := by simp [hxs]
    rw [un_c (c75_1.eq_1)]
    simp only [List.map_nil, List.append_nil]
    rw [h2]
    simp (config := { contextual := true, dsimp := false, implicitDefEqProofs := false, maxSteps := 5000000 }) only [h1, List.length_map, go_sem, Nat.reduceEqDiff, Nat.reduceAdd, Nat.reduceLeDiff, Nat.reduceMul, Nat.reduceLT, Nat.reduceBEq, Int.reduceLT, Int.reduceLE, Int.reduceToNat, Int.reduceAdd, Int.reduceSub, Int.reduceEq, Int.reduceNeg, ↓reduceIte]
    all_goals (try rfl)
  | a :: suf, pre, kk, hxs, hk => by
    obtain ⟨kk, rfl⟩ : ∃ m, kk = m + 1 := ⟨kk - 1, by simp at hk; omega⟩
    have hl : pre.length < ((pre.map (freeW c)).map eW ++ (a :: suf).map eW).length := by simp
    have h2 : ((pre.length : Int) < ((((pre.map (freeW c)).map eW ++ (a :: suf).map eW).length : Nat) : Int)) = True := by simp; omega
    have h3 : (0 ≤ (pre.length : Int)) = True := by simp
    have h4 := wrN pre.length (by have := hm.w2; rw [hxs] at this; simp at this; omega)
    have hg : ((pre.map (freeW c)).map eW ++ (a :: suf).map eW)[pre.length]? = some (eW a) := by simp
    have hset : ∀ x, ((pre.map (freeW c)).map eW ++ (a :: suf).map eW).set pre.length x = (pre.map (freeW c)).map eW ++ x :: suf.map eW := by intro x; simp [List.set_append]
    have ih := l_free2 i k m hm id c hc q Q suf (pre ++ [a]) kk (by simp [hxs]) (by simpa using hk)
    simp only [append_len1, List.map_append, List.map_cons, List.map_nil, List.append_assoc, List.cons_append, List.nil_append] at ih
    by_cases hlk : a.lock = c
    · have h5 : decide (a.lock = c) = true := by simpa using hlk
      simp only [freeW, hlk, if_true, eW] at ih
      simp only [eW, List.map_cons, freeW] at h2 hg hset ⊢
      rw [un_c (c75_1.eq_1)]
      simp (config := { contextual := true, dsimp := false, implicitDefEqProofs := false, maxSteps := 5000000 }) only [h2, h3, h4, hg, hset, hc, h5, gLs, go_sem, Nat.reduceEqDiff, Nat.reduceAdd, Nat.reduceLeDiff, Nat.reduceMul, Nat.reduceLT, Nat.reduceBEq, Int.reduceLT, Int.reduceLE, Int.reduceToNat, Int.reduceAdd, Int.reduceSub, Int.reduceEq, Int.reduceNeg, ↓reduceIte]
      exact ih
    · have h5 : decide (a.lock = c) = false := by simpa using hlk
      simp only [freeW, hlk, if_false, eW] at ih
      simp only [eW, List.map_cons, freeW] at h2 hg hset ⊢
      rw [un_c (c75_1.eq_1)]
      simp (config := { contextual := true, dsimp := false, implicitDefEqProofs := false, maxSteps := 5000000 }) only [h2, h3, h4, hg, hset, hc, h5, gLs, go_sem, Nat.reduceEqDiff, Nat.reduceAdd, Nat.reduceLeDiff, Nat.reduceMul, Nat.reduceLT, Nat.reduceBEq, Int.reduceLT, Int.reduceLE, Int.reduceToNat, Int.reduceAdd, Int.reduceSub, Int.reduceEq, Int.reduceNeg, ↓reduceIte]
      exact ih


theorem l_free3 (i k : Nat) (m : TMach) (hm : SmM m) (id c : Int) (hc : IntKind.wrap .i64 (id + 1) = c) (q : Out → St → Option Ans) (Q : V → Hp → Nat → Prop) : ∀ (suf pre : List TWord) (kk : Nat), m.words.a3 = pre ++ suf → suf.length < kk + 1 →
    Fin (evC ctx (Lv ctx i) (pureOf (Lv ctx i)) k c75_1 ⟨ofLive [0, 1, 4, 5] [.ptr 7 0 0, iV id, iV 3, iV pre.length], hF m ((m.words.a0.map (freeW c)).map eW) ((m.words.a1.map (freeW c)).map eW) ((m.words.a2.map (freeW c)).map eW) ((pre.map (freeW c)).map eW ++ suf.map eW), 8⟩ (restK [0, 1, 4, 5] fun o s => thenK (evLoop 8 [0, 1, 4, 5] (fun s q => evC ctx (Lv ctx i) (pureOf (Lv ctx i)) k c75_1 s (restK [0, 1, 4, 5] q)) q kk) q o s)) Q = Fin (q (.exit 0) ⟨ofLive [0, 1, 4] [.ptr 7 0 0, iV id, iV 3], hF m ((m.words.a0.map (freeW c)).map eW) ((m.words.a1.map (freeW c)).map eW) ((m.words.a2.map (freeW c)).map eW) ((m.words.a3.map (freeW c)).map eW), 8⟩) Q
  | [], pre, kk, hxs, hk => by
    have h1 : decide ((pre.length : Int) < (pre.length : Int)) = false := by simp
    have h2 : m.words.a3 = pre := by simp [hxs]
    rw [un_c (c75_1.eq_1)]
    simp only [List.map_nil, List.append_nil]
    rw [h2]
    simp (config := { contextual := true, dsimp := false, implicitDefEqProofs := false, maxSteps := 5000000 }) only [h1, List.length_map, go_sem, Nat.reduceEqDiff, Nat.reduceAdd, Nat.reduceLeDiff, Nat.reduceMul, Nat.reduceLT, Nat.reduceBEq, Int.reduceLT, Int.reduceLE, Int.reduceToNat, Int.reduceAdd, Int.reduceSub, Int.reduceEq, Int.reduceNeg, ↓reduceIte]
    all_goals (try rfl)
  | a :: suf, pre, kk, hxs, hk => by
    obtain ⟨kk, rfl⟩ : ∃ m, kk = m + 1 := ⟨kk - 1, by simp at hk; omega⟩
    have hl : pre.length < ((pre.map (freeW c)).map eW ++ (a :: suf).map eW).length := by simp
    have h2 : ((pre.length : Int) < ((((pre.map (freeW c)).map eW ++ (a :: suf).map eW).length : Nat) : Int)) = True := by simp; omega
    have h3 : (0 ≤ (pre.length : Int)) = True := by simp
    have h4 := wrN pre.length (by have := hm.w3; rw [hxs] at this; simp at this; omega)
    have hg : ((pre.map (freeW c)).map eW ++ (a :: suf).map eW)[pre.length]? = some (eW a) := by simp
    have hset : ∀ x, ((pre.map (freeW c)).map eW ++ (a :: suf).map eW).set pre.length x = (pre.map (freeW c)).map eW ++ x :: suf.map eW := by intro x; simp [List.set_append]
    have ih := l_free3 i k m hm id c hc q Q suf (pre ++ [a]) kk (by simp [hxs]) (by simpa using hk)
    simp only [append_len1, List.map_append, List.map_cons, List.map_nil, List.append_assoc, List.cons_append, List.nil_append] at ih
    by_cases hlk : a.lock = c
    · have h5 : decide (a.lock = c) = true := by simpa using hlk
      simp only [freeW, hlk, if_true, eW] at ih
      simp only [eW, List.map_cons, freeW] at h2 hg hset ⊢
      rw [un_c (c75_1.eq_1)]
      simp (config := { contextual := true, dsimp := false, implicitDefEqProofs := false, maxSteps := 5000000 }) only [h2, h3, h4, hg, hset, hc, h5, gLs, go_sem, Nat.reduceEqDiff, Nat.reduceAdd, Nat.reduceLeDiff, Nat.reduceMul, Nat.reduceLT, Nat.reduceBEq, Int.reduceLT, Int.reduceLE, Int.reduceToNat, Int.reduceAdd, Int.reduceSub, Int.reduceEq, Int.reduceNeg, ↓reduceIte]
      exact ih
    · have h5 : decide (a.lock = c) = false := by simpa using hlk
      simp only [freeW, hlk, if_false, eW] at ih
      simp only [eW, List.map_cons, freeW] at h2 hg hset ⊢
      rw [un_c (c75_1.eq_1)]
      simp (config := { contextual := true, dsimp := false, implicitDefEqProofs := false, maxSteps := 5000000 }) only [h2, h3, h4, hg, hset, hc, h5, gLs, go_sem, Nat.reduceEqDiff, Nat.reduceAdd, Nat.reduceLeDiff, Nat.reduceMul, Nat.reduceLT, Nat.reduceBEq, Int.reduceLT, Int.reduceLE, Int.reduceToNat, Int.reduceAdd, Int.reduceSub, Int.reduceEq, Int.reduceNeg, ↓reduceIte]
      exact ih


def irRest : IR → IR
  | .seq _ (.seq _ r) => r
  | x => x
theorem irRest_eq (a b r : IR) : irRest (.seq a (.seq b r)) = r := (rfl)
theorem from_free (C : Ctx) (O : Orc) (P : FuncId → List V → Option V) (k : Nat) (s : St) (q : Out → St → Option Ans) (Q : V → Hp → Nat → Prop) : Fin (evFrom C O P k c75_2 0 s q) Q = Fin (evC C O P k (irRest c75_2) s q) Q := (rfl)
theorem gScope_free (thr : Nat) (live : List Nat) (f : Nat → St → (Out → St → Option Ans) → Option Ans) (q : Out → St → Option Ans) (k : Nat) (s : St) (Q : V → Hp → Nat → Prop) : Fin (evScope thr live (hasL c75_2) f q (k + 1) 0 s) Q =
    GN thr live s (fun s => f 0 s (jumpK (fun l s => evScope thr live (hasL c75_2) f q k l (restr live s)) q)) Q ⟨⟩ := (rfl)
theorem gE_scope (C : Ctx) (O : Orc) (P : FuncId → List V → Option V) (k : Nat) (live : List Nat) (b : IR) (s : St) (q : Out → St → Option Ans) (Q : V → Hp → Nat → Prop) : Fin (evC C O P k (.scope live b) s q) Q =
    Fin (evC C O P k b s (jumpK (fun l s' => evScope s.n live (hasL b) (fun l s q => evFrom C O P k b l s q) q k l (restr live s')) q)) Q := (rfl)
abbrev hF0 (m : TMach) : Hp := hF m (m.words.a0.map eW) (m.words.a1.map eW) (m.words.a2.map eW) (m.words.a3.map eW)
abbrev hF4 (c : Int) (m : TMach) : Hp := hF m ((m.words.a0.map (freeW c)).map eW) ((m.words.a1.map (freeW c)).map eW) ((m.words.a2.map (freeW c)).map eW) ((m.words.a3.map (freeW c)).map eW)
theorem s_free (i : Nat) (m : TMach) (hm : SmM m) (id c : Int) (hc : IntKind.wrap .i64 (id + 1) = c) : Lv ctx (i + 1) 75 [.ptr 7 0 0, iV id] (hF0 m) 8 = some (.tup [], hF4 c m, 8) := by
  refine inl_of rfl (m.words.a0.length + m.words.a1.length + m.words.a2.length + m.words.a3.length + 5) ?_
  have h0 := fun q Q => l_free0 i (m.words.a0.length + m.words.a1.length + m.words.a2.length + m.words.a3.length + 5) m hm id c hc q Q m.words.a0 [] (m.words.a0.length + m.words.a1.length + m.words.a2.length + m.words.a3.length + 4) rfl (by omega)
  have h1 := fun q Q => l_free1 i (m.words.a0.length + m.words.a1.length + m.words.a2.length + m.words.a3.length + 5) m hm id c hc q Q m.words.a1 [] (m.words.a0.length + m.words.a1.length + m.words.a2.length + m.words.a3.length + 4) rfl (by omega)
  have h2 := fun q Q => l_free2 i (m.words.a0.length + m.words.a1.length + m.words.a2.length + m.words.a3.length + 5) m hm id c hc q Q m.words.a2 [] (m.words.a0.length + m.words.a1.length + m.words.a2.length + m.words.a3.length + 4) rfl (by omega)
  have h3 := fun q Q => l_free3 i (m.words.a0.length + m.words.a1.length + m.words.a2.length + m.words.a3.length + 5) m hm id c hc q Q m.words.a3 [] (m.words.a0.length + m.words.a1.length + m.words.a2.length + m.words.a3.length + 4) rfl (by omega)
  simp only [List.map_nil, List.nil_append, List.length_nil, cast0] at h0 h1 h2 h3
  delta c75
  simp (config := { contextual := true, dsimp := false, implicitDefEqProofs := false, maxSteps := 5000000 }) only [↓gE_scope, ↓gScope_free, ↓from_free, irRest_eq, ↓un_c (c75_2.eq_1), ↓un_c (congrArg irRest c75_2.eq_1), gLs, ↓h0, ↓h1, ↓h2, ↓h3, h0, h1, h2, h3, go_sem, Nat.reduceEqDiff, Nat.reduceAdd, Nat.reduceLeDiff, Nat.reduceMul, Nat.reduceLT, Nat.reduceBEq, Int.reduceLT, Int.reduceLE, Int.reduceToNat, Int.reduceAdd, Int.reduceSub, Int.reduceEq, Int.reduceNeg, ↓reduceIte]

end Ve

/- Undoing: the program's, on. -/
namespace Ve
open Go Ve.Ab
set_option maxRecDepth 10000
set_option linter.unusedSimpArgs false
set_option linter.unusedVariables false
theorem fix_snil (L : Lay) (t : TypeId) : fixNil L t (.lit (.slice none 0 0)) = match L t with
  | some { k := .sl el, .. } => match L el with
    | some e => .own e.size []
    | none => .lit (.slice none 0 0)
  | _ => .lit (.slice none 0 0) := by
  simp only [fixNil, V.isNil, if_true]
  rcases L t with _ | ⟨_, _, _, k, _, _, _⟩
  · rfl
  · cases k <;> rfl
attribute [go_sem] fix_snil
abbrev hN (m : TMach) (a1 a2 a3 a4 : List V) (els : List V) : Hp :=
  pO (pO (pO (pO (pO (pO (pO (pO emptyHp 0 (some ⟨11, [zM], false⟩)) 1 (some ⟨3, a1, false⟩)) 2 (some ⟨3, a2, false⟩)) 3 (some ⟨3, a3, false⟩)) 4 (some ⟨3, a4, false⟩)) 5 (some ⟨17, els, false⟩)) 6 (some ⟨4, m.trace.map eE, false⟩))
    7 (some ⟨11, [.agg [.sl 1, .sl 2, .sl 3, .sl 4, iV m.clocks.a0, iV m.clocks.a1, iV m.clocks.a2, iV m.clocks.a3, iV m.ceil, .sl 5, .sl 6]], true⟩)
abbrev hT (m : TMach) (a1 a2 a3 a4 : List V) (els : List V) (e : TEvent) : Hp :=
  pO (pO (pO (pO (pO (pO (pO (pO (pO (pO emptyHp 0 (some ⟨11, [zM], false⟩)) 1 (some ⟨3, a1, false⟩)) 2 (some ⟨3, a2, false⟩)) 3 (some ⟨3, a3, false⟩)) 4 (some ⟨3, a4, false⟩)) 5 (some ⟨17, els, false⟩)) 6 none)
    7 (some ⟨11, [.agg [.sl 1, .sl 2, .sl 3, .sl 4, iV m.clocks.a0, iV m.clocks.a1, iV m.clocks.a2, iV m.clocks.a3, iV m.ceil, .sl 5, .sl 9]], true⟩)) 8 none) 9 (some ⟨4, m.trace.map eE ++ [eE e], false⟩)
theorem s_drop (i : Nat) (m : TMach) (hm : SmM m) (k : Nat) (s : TSess) (hs : m.sess[k]? = some s) : Lv ctx (i + 2) 38 [.ptr 7 0 0, iV k] (hF0 m) 8 =
    some (.ptr 5 k 0, hN m ((m.words.a0.map (freeW (IntKind.wrap .i64 (s.id + 1)))).map eW) ((m.words.a1.map (freeW (IntKind.wrap .i64 (s.id + 1)))).map eW) ((m.words.a2.map (freeW (IntKind.wrap .i64 (s.id + 1)))).map eW) ((m.words.a3.map (freeW (IntKind.wrap .i64 (s.id + 1)))).map eW) ((m.sess.map oS).set k (oS (dropS s))), 8) := by
  have hk : k < m.sess.length := by
    rcases Nat.lt_or_ge k m.sess.length with h | h
    · exact h
    · rw [List.getElem?_eq_none h] at hs; cases hs
  have h1 : (0 ≤ (k : Int)) = True := by simp
  have h2 : ((k : Int) < (m.sess.length : Int)) = True := by simpa using hk
  have h3 : (m.sess.map oS)[k]? = some (oS s) := by simp [hs]
  have h4 : ∀ x y, ((m.sess.map oS).set k x).set k y = (m.sess.map oS).set k y := fun x y => List.set_set ..
  have h5 : ∀ x, ((m.sess.map oS).set k x)[k]? = some x := fun x => List.getElem?_set_self (by simpa using hk)
  have hf := s_free i m hm s.id _ rfl
  simp only [oS] at h3
  refine inl_of rfl 0 ?_
  delta c38
  simp (config := { contextual := true, dsimp := false, implicitDefEqProofs := false, maxSteps := 5000000 }) only [h1, h2, h3, h4, h5, hf, dropS, List.map_nil, go_sem, Nat.reduceEqDiff, Nat.reduceAdd, Nat.reduceLeDiff, Nat.reduceMul, Nat.reduceLT, Nat.reduceBEq, Int.reduceLT, Int.reduceLE, Int.reduceToNat, Int.reduceAdd, Int.reduceSub, Int.reduceEq, Int.reduceNeg, ↓reduceIte]
  rfl
theorem s_note (i : Nat) (m : TMach) (a1 a2 a3 a4 l : List V) (k : Nat) (hk : k < l.length) (id lb : Int) (rest : List V) (kd vl : Int) (htr : m.trace.length < 512) :
    Lv ctx (i + 1) 39 [.ptr 7 0 0, iV k, iV kd, iV vl] (hN m a1 a2 a3 a4 (l.set k (.agg (iV id :: iV lb :: rest)))) 8 = some (.tup [], hT m a1 a2 a3 a4 (l.set k (.agg (iV id :: iV lb :: rest))) ⟨id, lb, kd, vl⟩, 10) := by
  have h1 : (0 ≤ (k : Int)) = True := by simp
  have h2 : ((k : Int) < (l.length : Int)) = True := by simpa using hk
  have h5 : ∀ x, (l.set k x)[k]? = some x := fun x => List.getElem?_set_self hk
  have h6 : decide ((m.trace.length : Int) < 512) = true := by simp; omega
  have h7 : (((m.trace.length + 1 : Nat) : Int) * ((32 : Nat) : Int) ≤ 140737488355328) = True := by simp; omega
  refine inl_of rfl 0 ?_
  delta c39
  simp (config := { contextual := true, dsimp := false, implicitDefEqProofs := false, maxSteps := 5000000 }) only [h1, h2, h5, h6, h7, List.length_set, List.replicate, go_sem, Nat.reduceEqDiff, Nat.reduceAdd, Nat.reduceLeDiff, Nat.reduceMul, Nat.reduceLT, Nat.reduceBEq, Int.reduceLT, Int.reduceLE, Int.reduceToNat, Int.reduceAdd, Int.reduceSub, Int.reduceEq, Int.reduceNeg, ↓reduceIte]
  rfl
theorem s_noteF (i : Nat) (m : TMach) (a1 a2 a3 a4 els : List V) (k : Int) (kd vl : Int) (htr : ¬ m.trace.length < 512) :
    Lv ctx (i + 1) 39 [.ptr 7 0 0, iV k, iV kd, iV vl] (hN m a1 a2 a3 a4 els) 8 = some (.tup [], hN m a1 a2 a3 a4 els, 8) := by
  have h6 : decide ((m.trace.length : Int) < 512) = false := by simp; omega
  refine inl_of rfl 0 ?_
  delta c39
  simp (config := { contextual := true, dsimp := false, implicitDefEqProofs := false, maxSteps := 5000000 }) only [h6, go_sem, Nat.reduceEqDiff, Nat.reduceAdd, Nat.reduceLeDiff, Nat.reduceMul, Nat.reduceLT, Nat.reduceBEq, Int.reduceLT, Int.reduceLE, Int.reduceToNat, Int.reduceAdd, Int.reduceSub, Int.reduceEq, Int.reduceNeg, ↓reduceIte]

theorem s_wordValue (i : Nat) (a : Int) : pureOf (Lv ctx (i + 2)) 43 [iV a] = some (bV (inR a 255)) := s_value i a
theorem gi_step {x : Option (V × Hp × Nat)} {v : V} {h : Hp} {n : Nat} {k : V → Hp → Nat → Option Ans} {Q : V → Hp → Nat → Prop} {u : Dum k} (hx : x = some (v, h, n)) (hk : Fin (k v h n) Q) : GI x k Q u := by rw [hx]; exact hk
theorem s_again (i : Nat) (pf : Bool) (m : TMach) (hm : SmM m) (at_ kind : Int) : pureOf (Lv ctx (i + 21)) 15 [eM pf m, iV at_, iV kind] = some (.tup [oM (againM m at_ kind).1, iV (againM m at_ kind).2]) := by
  have ht := s_mthere (i + 0) pf pf m at_ hm
  have hc := s_mcopy (i + 17) pf m hm
  simp only [Nat.add_assoc, Nat.reduceAdd] at ht hc
  cases h1 : (hereM m at_ && (decide (kind = 3) || decide (kind = 5)))
  · have h2 : ∀ a b c : Bool, (!a || !b && !c) = !(a && (b || c)) := by decide
    have h3 := h2 (hereM m at_) (decide (kind = 3)) (decide (kind = 5))
    rw [h1] at h3
    refine sp_of rfl 0 (by rfl) ?_
    delta c15
    simp (config := { contextual := true, dsimp := false, implicitDefEqProofs := false, maxSteps := 5000000 }) only [ht, h3, go_sem, Nat.reduceEqDiff, Nat.reduceAdd, Nat.reduceLeDiff, Nat.reduceMul, Nat.reduceLT, Nat.reduceBEq, Int.reduceLT, Int.reduceLE, Int.reduceToNat, Int.reduceAdd, Int.reduceSub, Int.reduceEq, Int.reduceNeg, ↓reduceIte]
    simp only [againM, h1]
    rfl
  · have h2 : ∀ a b c : Bool, (!a || !b && !c) = !(a && (b || c)) := by decide
    have h3 := h2 (hereM m at_) (decide (kind = 3)) (decide (kind = 5))
    rw [h1] at h3
    have hh : hereM m at_ = true := by simp only [Bool.and_eq_true] at h1; exact h1.1
    obtain ⟨s, k, rfl, hs, hk⟩ := here_get hh
    have hd := s_drop (i + (20 - 2)) m hm k s hs
    have h5 : ∀ x, ((m.sess.map oS).set k x)[k]? = some x := fun x => List.getElem?_set_self (by simpa using hk)
    have h4 : ∀ x y, ((m.sess.map oS).set k x).set k y = (m.sess.map oS).set k y := fun x y => List.set_set ..
    have hm1 : againM m k kind = (tellM (setS (freeM (IntKind.wrap .i64 (s.id + 1)) m) k (againS s)) ⟨s.id, s.label, kind, minT s.tries⟩, 0) := by
      simp only [againM, h1, if_true, Int.toNat_natCast, hs]
    rw [hm1]
    by_cases htr : m.trace.length < 512
    · have hn := s_note (i + (20 - 1)) m ((m.words.a0.map (freeW (IntKind.wrap .i64 (s.id + 1)))).map eW) ((m.words.a1.map (freeW (IntKind.wrap .i64 (s.id + 1)))).map eW) ((m.words.a2.map (freeW (IntKind.wrap .i64 (s.id + 1)))).map eW) ((m.words.a3.map (freeW (IntKind.wrap .i64 (s.id + 1)))).map eW) (m.sess.map oS) k (by simpa using hk) s.id s.label
        [iV s.clear, oIs s.prog, iV 0, iV 0, iV 0, iV 0, iV 0, iV 0, oRs [], oWrs [], iV 0, iV 0, iV (minT s.tries), iV s.result, iV s.told] kind (minT s.tries) htr
      simp only [Nat.add_assoc, Nat.reduceAdd, Nat.reduceSub] at hd hn
      refine sp_of rfl 0 (by rfl) ?_
      delta c15
      simp (config := { contextual := true, dsimp := false, implicitDefEqProofs := false, maxSteps := 5000000 }) only [ht, hc, h3, hd, h4, h5, hn, dropS, minT, go_sem, Nat.reduceEqDiff, Nat.reduceAdd, Nat.reduceLeDiff, Nat.reduceMul, Nat.reduceLT, Nat.reduceBEq, Int.reduceLT, Int.reduceLE, Int.reduceToNat, Int.reduceAdd, Int.reduceSub, Int.reduceEq, Int.reduceNeg, ↓reduceIte]
      refine gi_step hn ?_
      simp (config := { contextual := true, dsimp := false, implicitDefEqProofs := false, maxSteps := 5000000 }) only [h5, h4, go_sem, Nat.reduceEqDiff, Nat.reduceAdd, Nat.reduceLeDiff, Nat.reduceMul, Nat.reduceLT, Nat.reduceBEq, Int.reduceLT, Int.reduceLE, Int.reduceToNat, Int.reduceAdd, Int.reduceSub, Int.reduceEq, Int.reduceNeg, ↓reduceIte]
      simp only [oM, cO, oWs, oSs, oEs, tellM, setS, freeM, htr, if_true, List.map_set, List.map_append, againS, dropS]
      rfl
    · have hn := s_noteF (i + (20 - 1)) m ((m.words.a0.map (freeW (IntKind.wrap .i64 (s.id + 1)))).map eW) ((m.words.a1.map (freeW (IntKind.wrap .i64 (s.id + 1)))).map eW) ((m.words.a2.map (freeW (IntKind.wrap .i64 (s.id + 1)))).map eW) ((m.words.a3.map (freeW (IntKind.wrap .i64 (s.id + 1)))).map eW)
        ((m.sess.map oS).set k (oS (againS s))) k kind (minT s.tries) htr
      simp only [Nat.add_assoc, Nat.reduceAdd, Nat.reduceSub] at hd hn
      refine sp_of rfl 0 (by rfl) ?_
      delta c15
      simp (config := { contextual := true, dsimp := false, implicitDefEqProofs := false, maxSteps := 5000000 }) only [ht, hc, h3, hd, h4, h5, dropS, go_sem, Nat.reduceEqDiff, Nat.reduceAdd, Nat.reduceLeDiff, Nat.reduceMul, Nat.reduceLT, Nat.reduceBEq, Int.reduceLT, Int.reduceLE, Int.reduceToNat, Int.reduceAdd, Int.reduceSub, Int.reduceEq, Int.reduceNeg, ↓reduceIte]
      refine gi_step hn ?_
      simp (config := { contextual := true, dsimp := false, implicitDefEqProofs := false, maxSteps := 5000000 }) only [h5, h4, go_sem, Nat.reduceEqDiff, Nat.reduceAdd, Nat.reduceLeDiff, Nat.reduceMul, Nat.reduceLT, Nat.reduceBEq, Int.reduceLT, Int.reduceLE, Int.reduceToNat, Int.reduceAdd, Int.reduceSub, Int.reduceEq, Int.reduceNeg, ↓reduceIte]
      simp only [oM, cO, oWs, oSs, oEs, tellM, setS, freeM, htr, if_false, List.map_set, againS, dropS]
      rfl
theorem s_end (i : Nat) (pf : Bool) (m : TMach) (hm : SmM m) (at_ result told : Int) : pureOf (Lv ctx (i + 21)) 17 [eM pf m, iV at_, iV result, iV told] = some (.tup [oM (endM m at_ result told).1, iV (endM m at_ result told).2]) := by
  have ht := s_mthere (i + 0) pf pf m at_ hm
  have hc := s_mcopy (i + 17) pf m hm
  simp only [Nat.add_assoc, Nat.reduceAdd] at ht hc
  have h2 : ∀ a b c d : Bool, (!a || !b || !c || !d) = !(a && (b && c) && d) := by decide
  have h3 := h2 (hereM m at_) (decide (0 ≤ result)) (decide (result ≤ 5)) (inR told 255)
  have n1 : decide (result < 0) = !decide (0 ≤ result) := by rw [← decide_not]; apply decide_eq_decide.mpr; omega
  have n2 : decide (5 < result) = !decide (result ≤ 5) := by rw [← decide_not]; apply decide_eq_decide.mpr; omega
  cases h1 : (hereM m at_ && (decide (0 ≤ result) && decide (result ≤ 5)) && inR told 255) <;> rw [h1] at h3
  · refine sp_of rfl 0 (by rfl) ?_
    delta c17
    simp (config := { contextual := true, dsimp := false, implicitDefEqProofs := false, maxSteps := 5000000 }) only [ht, h3, n1, n2, go_sem, Nat.reduceEqDiff, Nat.reduceAdd, Nat.reduceLeDiff, Nat.reduceMul, Nat.reduceLT, Nat.reduceBEq, Int.reduceLT, Int.reduceLE, Int.reduceToNat, Int.reduceAdd, Int.reduceSub, Int.reduceEq, Int.reduceNeg, ↓reduceIte]
    simp only [endM, inR] at h1 ⊢
    simp only [h1]
    rfl
  · have hh : hereM m at_ = true := by simp only [Bool.and_eq_true] at h1; exact h1.1.1
    obtain ⟨s, k, rfl, hs, hk⟩ := here_get hh
    have hd := s_drop (i + (20 - 2)) m hm k s hs
    have h5 : ∀ x, ((m.sess.map oS).set k x)[k]? = some x := fun x => List.getElem?_set_self (by simpa using hk)
    have h4 : ∀ x y, ((m.sess.map oS).set k x).set k y = (m.sess.map oS).set k y := fun x y => List.set_set ..
    have hm1 : endM m k result told = (tellM (setS (freeM (IntKind.wrap .i64 (s.id + 1)) m) k (endS s result told)) ⟨s.id, s.label, 6, result⟩, 0) := by
      simp only [inR] at h1
      simp only [endM, inR, h1, if_true, Int.toNat_natCast, hs]
    rw [hm1]
    by_cases htr : m.trace.length < 512
    · have hn := s_note (i + (20 - 1)) m ((m.words.a0.map (freeW (IntKind.wrap .i64 (s.id + 1)))).map eW) ((m.words.a1.map (freeW (IntKind.wrap .i64 (s.id + 1)))).map eW) ((m.words.a2.map (freeW (IntKind.wrap .i64 (s.id + 1)))).map eW) ((m.words.a3.map (freeW (IntKind.wrap .i64 (s.id + 1)))).map eW) (m.sess.map oS) k (by simpa using hk) s.id s.label
        [iV s.clear, oIs s.prog, iV 6, iV s.pc, iV s.regs.a0, iV s.regs.a1, iV s.regs.a2, iV s.regs.a3, oRs [], oWrs [], iV 0, iV 0, iV s.tries, iV result, iV told] 6 result htr
      simp only [Nat.add_assoc, Nat.reduceAdd, Nat.reduceSub] at hd hn
      refine sp_of rfl 0 (by rfl) ?_
      delta c17
      simp (config := { contextual := true, dsimp := false, implicitDefEqProofs := false, maxSteps := 5000000 }) only [ht, hc, h3, n1, n2, hd, h4, h5, dropS, go_sem, Nat.reduceEqDiff, Nat.reduceAdd, Nat.reduceLeDiff, Nat.reduceMul, Nat.reduceLT, Nat.reduceBEq, Int.reduceLT, Int.reduceLE, Int.reduceToNat, Int.reduceAdd, Int.reduceSub, Int.reduceEq, Int.reduceNeg, ↓reduceIte]
      refine gi_step hn ?_
      simp (config := { contextual := true, dsimp := false, implicitDefEqProofs := false, maxSteps := 5000000 }) only [h5, h4, go_sem, Nat.reduceEqDiff, Nat.reduceAdd, Nat.reduceLeDiff, Nat.reduceMul, Nat.reduceLT, Nat.reduceBEq, Int.reduceLT, Int.reduceLE, Int.reduceToNat, Int.reduceAdd, Int.reduceSub, Int.reduceEq, Int.reduceNeg, ↓reduceIte]
      simp only [oM, cO, oWs, oSs, oEs, tellM, setS, freeM, htr, if_true, List.map_set, List.map_append, endS, dropS]
      rfl
    · have hn := s_noteF (i + (20 - 1)) m ((m.words.a0.map (freeW (IntKind.wrap .i64 (s.id + 1)))).map eW) ((m.words.a1.map (freeW (IntKind.wrap .i64 (s.id + 1)))).map eW) ((m.words.a2.map (freeW (IntKind.wrap .i64 (s.id + 1)))).map eW) ((m.words.a3.map (freeW (IntKind.wrap .i64 (s.id + 1)))).map eW)
        ((m.sess.map oS).set k (oS (endS s result told))) k 6 result htr
      simp only [Nat.add_assoc, Nat.reduceAdd, Nat.reduceSub] at hd hn
      refine sp_of rfl 0 (by rfl) ?_
      delta c17
      simp (config := { contextual := true, dsimp := false, implicitDefEqProofs := false, maxSteps := 5000000 }) only [ht, hc, h3, n1, n2, hd, h4, h5, dropS, go_sem, Nat.reduceEqDiff, Nat.reduceAdd, Nat.reduceLeDiff, Nat.reduceMul, Nat.reduceLT, Nat.reduceBEq, Int.reduceLT, Int.reduceLE, Int.reduceToNat, Int.reduceAdd, Int.reduceSub, Int.reduceEq, Int.reduceNeg, ↓reduceIte]
      refine gi_step hn ?_
      simp (config := { contextual := true, dsimp := false, implicitDefEqProofs := false, maxSteps := 5000000 }) only [h5, h4, go_sem, Nat.reduceEqDiff, Nat.reduceAdd, Nat.reduceLeDiff, Nat.reduceMul, Nat.reduceLT, Nat.reduceBEq, Int.reduceLT, Int.reduceLE, Int.reduceToNat, Int.reduceAdd, Int.reduceSub, Int.reduceEq, Int.reduceNeg, ↓reduceIte]
      simp only [oM, cO, oWs, oSs, oEs, tellM, setS, freeM, htr, if_false, List.map_set, endS, dropS]
      rfl
end Ve

/- What may be: the reference's. -/
namespace Ve
open Go Ve.Ab
set_option maxRecDepth 100000
set_option linter.unusedSimpArgs false
set_option linter.unusedVariables false
@[go_sem] theorem r_there (i : Nat) (a b c d na nb nc nd : Bool) (w0 w1 w2 w3 : List TWord) (l x : Int) : pureOf (Lv ctx (i + 3)) 119 [.agg [.isl a na 3 (w0.map eW), .isl b nb 3 (w1.map eW), .isl c nc 3 (w2.map eW), .isl d nd 3 (w3.map eW)], iV l, iV x] = some (bV (wThere ⟨w0, w1, w2, w3⟩ l x)) := by
  rcases lab_cases l with rfl | rfl | rfl | rfl | h <;> refine sp_of rfl 0 (by rfl) ?_ <;> delta c119
  case inr.inr.inr.inr => simp (config := { contextual := true, dsimp := false, implicitDefEqProofs := false, maxSteps := 5000000 }) only [wThere, h, go_sem, Nat.reduceEqDiff, Nat.reduceAdd, Nat.reduceLeDiff, Nat.reduceMul, Nat.reduceLT, Nat.reduceBEq, Int.reduceLT, Int.reduceLE, Int.reduceToNat, Int.reduceAdd, Int.reduceSub, Int.reduceEq, Int.reduceNeg, ↓reduceIte]
  all_goals simp (config := { contextual := true, dsimp := false, implicitDefEqProofs := false, maxSteps := 5000000 }) only [wThere, A4.get, go_sem, Nat.reduceEqDiff, Nat.reduceAdd, Nat.reduceLeDiff, Nat.reduceMul, Nat.reduceLT, Nat.reduceBEq, Int.reduceLT, Int.reduceLE, Int.reduceToNat, Int.reduceAdd, Int.reduceSub, Int.reduceEq, Int.reduceNeg, ↓reduceIte]
@[go_sem] theorem r_regsMay (i : Nat) (a b c d : Int) : pureOf (Lv ctx (i + 3)) 85 [.agg [iV a, iV b, iV c, iV d]] = some (bV (all4 255 a b c d)) := by
  refine sp_of rfl 5 (by rfl) ?_
  delta c85
  simp (config := { contextual := true, dsimp := false, implicitDefEqProofs := false, maxSteps := 5000000 }) only [gLs, ↓un_c (c85_1.eq_1), all4, go_sem, Nat.reduceEqDiff, Nat.reduceAdd, Nat.reduceLeDiff, Nat.reduceMul, Nat.reduceLT, Nat.reduceBEq, Int.reduceLT, Int.reduceLE, Int.reduceToNat, Int.reduceAdd, Int.reduceSub, Int.reduceEq, Int.reduceNeg, ↓reduceIte]
  cases inR a 255 <;> cases inR b 255 <;> cases inR c 255 <;> cases inR d 255 <;> simp_all
theorem rowMay_all (ws : List TWord) : rowMay ws = (decide (ws.length ≤ 4) && ws.all wordMay) := rfl


theorem lr_rthere (i k : Nat) (xs : List TRead) (hx : xs.length ≤ BB) (pf nn : Bool) (pa b c d na nb nc nd : Bool) (w0 w1 w2 w3 : List TWord) (q : Out → St → Option Ans) (Q : V → Hp → Nat → Prop) (u : Dum (fun s q => evC ctx (Lv ctx (i + 3)) (pureOf (Lv ctx (i + 3))) k c120_1 s (restK [1, 2, 5] q))) (w : Dum q) : ∀ (suf pre : List TRead) (kk : Nat), xs = pre ++ suf → suf.length < kk →
    GL 0 [1, 2, 5] (fun s q => evC ctx (Lv ctx (i + 3)) (pureOf (Lv ctx (i + 3))) k c120_1 s (restK [1, 2, 5] q)) q kk ⟨ofLive [1, 2, 5] [.isl pf nn 3 (xs.map eR), .ip (pa && (b && (c && d))) [.isl pa na 3 (w0.map eW), .isl b nb 3 (w1.map eW), .isl c nc 3 (w2.map eW), .isl d nd 3 (w3.map eW)] 0, iV pre.length], emptyHp, 0⟩ Q u w = boolP (suf.all fun a => wThere ⟨w0, w1, w2, w3⟩ a.level a.index) (Fin (q (.exit 0) ⟨ofLive [] [], emptyHp, 0⟩) Q) (Fin (q .ret ⟨ofLive [4] [bV false], emptyHp, 0⟩) Q)
  | [], pre, kk, hxs, hk => by
    obtain ⟨kk, rfl⟩ : ∃ m, kk = m + 1 := ⟨kk - 1, by simp at hk; omega⟩
    have h1 : decide ((pre.length : Int) < (xs).length) = false := by simp [hxs]
    simp (config := { contextual := true, dsimp := false, implicitDefEqProofs := false, maxSteps := 5000000 }) only [gLs, ↓un_c (c120_1.eq_1), h1, boolP_t, List.all_nil, go_sem, Nat.reduceEqDiff, Nat.reduceAdd, Nat.reduceLeDiff, Nat.reduceMul, Nat.reduceLT, Nat.reduceBEq, Int.reduceLT, Int.reduceLE, Int.reduceToNat, Int.reduceAdd, Int.reduceSub, Int.reduceEq, Int.reduceNeg, ↓reduceIte]
  | a :: suf, pre, kk, hxs, hk => by
    obtain ⟨kk, rfl⟩ : ∃ m, kk = m + 1 := ⟨kk - 1, by simp at hk; omega⟩
    have hl : pre.length < (xs).length := by simp [hxs]
    have h2 : ((pre.length : Int) < (xs).length) = True := by simpa using hl
    have h3 : (0 ≤ (pre.length : Int)) = True := by simp
    have h4 := wrN pre.length (by have := hx; omega)
    have hg : (xs)[pre.length]? = some a := by simp [hxs]
    have hmem : a ∈ xs := by simp [hxs]
    have ih := lr_rthere i k xs hx pf nn pa b c d na nb nc nd w0 w1 w2 w3 q Q u w suf (pre ++ [a]) kk (by simp [hxs]) (by simpa using hk)
    rw [append_len1] at ih
    simp only [List.all_cons]
    cases hb : (wThere ⟨w0, w1, w2, w3⟩ a.level a.index)
    · rw [Bool.false_and]
      repeat simp (config := { contextual := true, dsimp := false, implicitDefEqProofs := false, maxSteps := 5000000 }) only [gLs, ↓un_c (c120_1.eq_1), h2, h3, h4, hg, hb, boolP_f, go_sem, Nat.reduceEqDiff, Nat.reduceAdd, Nat.reduceLeDiff, Nat.reduceMul, Nat.reduceLT, Nat.reduceBEq, Int.reduceLT, Int.reduceLE, Int.reduceToNat, Int.reduceAdd, Int.reduceSub, Int.reduceEq, Int.reduceNeg, ↓reduceIte]
    · rw [Bool.true_and]
      repeat simp (config := { contextual := true, dsimp := false, implicitDefEqProofs := false, maxSteps := 5000000 }) only [gLs, ↓un_c (c120_1.eq_1), h2, h3, h4, hg, hb, ih, go_sem, Nat.reduceEqDiff, Nat.reduceAdd, Nat.reduceLeDiff, Nat.reduceMul, Nat.reduceLT, Nat.reduceBEq, Int.reduceLT, Int.reduceLE, Int.reduceToNat, Int.reduceAdd, Int.reduceSub, Int.reduceEq, Int.reduceNeg, ↓reduceIte]


theorem r_rthere (i : Nat) (pf nn : Bool) (xs : List TRead) (hx : xs.length ≤ BB) (a b c d na nb nc nd : Bool) (w0 w1 w2 w3 : List TWord) : pureOf (Lv ctx (i + 4)) 120 [.agg [.isl a na 3 (w0.map eW), .isl b nb 3 (w1.map eW), .isl c nc 3 (w2.map eW), .isl d nd 3 (w3.map eW)], .isl pf nn 3 (xs.map eR)] = some (bV (readsThere ⟨w0, w1, w2, w3⟩ xs)) := by
  refine sp_of rfl (xs.length + 1) (by rfl) ?_
  delta c120
  have h2 := fun q Q u w => lr_rthere i (xs.length + 1) xs hx pf nn a b c d na nb nc nd w0 w1 w2 w3 q Q u w xs [] (xs.length + 1) rfl (by omega)
  simp only [List.length_nil, Int.natCast_zero] at h2
  simp (config := { contextual := true, dsimp := false, implicitDefEqProofs := false, maxSteps := 5000000 }) only [readsThere, go_sem, Nat.reduceEqDiff, Nat.reduceAdd, Nat.reduceLeDiff, Nat.reduceMul, Nat.reduceLT, Nat.reduceBEq, Int.reduceLT, Int.reduceLE, Int.reduceToNat, Int.reduceAdd, Int.reduceSub, Int.reduceEq, Int.reduceNeg, ↓reduceIte]
  refine Eq.mpr (h2 _ _ _ _) ?_
  cases hb : (xs.all fun a => wThere ⟨w0, w1, w2, w3⟩ a.level a.index) <;> simp (config := { contextual := true, dsimp := false, implicitDefEqProofs := false, maxSteps := 5000000 }) only [boolP_t, boolP_f, go_sem, Nat.reduceEqDiff, Nat.reduceAdd, Nat.reduceLeDiff, Nat.reduceMul, Nat.reduceLT, Nat.reduceBEq, Int.reduceLT, Int.reduceLE, Int.reduceToNat, Int.reduceAdd, Int.reduceSub, Int.reduceEq, Int.reduceNeg, ↓reduceIte]


theorem lr_words1 (i k : Nat) (ps : Bool) (s : TSess) (hs : SmS s) (pa b c d na nb nc nd : Bool) (w0 w1 w2 w3 : List TWord) (q : Out → St → Option Ans) (Q : V → Hp → Nat → Prop) (u : Dum (fun s q => evC ctx (Lv ctx (i + 4)) (pureOf (Lv ctx (i + 4))) k c84_1 s (restK [2, 3, 5] q))) (w : Dum q) : ∀ (suf pre : List TInst) (kk : Nat), s.prog = pre ++ suf → suf.length < kk →
    GL 0 [2, 3, 5] (fun s q => evC ctx (Lv ctx (i + 4)) (pureOf (Lv ctx (i + 4))) k c84_1 s (restK [2, 3, 5] q)) q kk ⟨ofLive [2, 3, 5] [.ip (pa && (b && (c && d))) [.isl pa na 3 (w0.map eW), .isl b nb 3 (w1.map eW), .isl c nc 3 (w2.map eW), .isl d nd 3 (w3.map eW)] 0, .ip ps [iV s.id, iV s.label, iV s.clear, eIs ps s.prog, iV s.step, iV s.pc, iV s.regs.a0, iV s.regs.a1, iV s.regs.a2, iV s.regs.a3, eRs ps s.reads, eWrs ps s.writes, iV s.at_, iV s.stamp, iV s.tries, iV s.result, iV s.told] 0, iV pre.length], emptyHp, 0⟩ Q u w = boolP (suf.all fun a => !(wordIs a.code) || wThere ⟨w0, w1, w2, w3⟩ a.b a.c) (Fin (q (.exit 0) ⟨ofLive [2, 3] [.ip (pa && (b && (c && d))) [.isl pa na 3 (w0.map eW), .isl b nb 3 (w1.map eW), .isl c nc 3 (w2.map eW), .isl d nd 3 (w3.map eW)] 0, .ip ps [iV s.id, iV s.label, iV s.clear, eIs ps s.prog, iV s.step, iV s.pc, iV s.regs.a0, iV s.regs.a1, iV s.regs.a2, iV s.regs.a3, eRs ps s.reads, eWrs ps s.writes, iV s.at_, iV s.stamp, iV s.tries, iV s.result, iV s.told] 0], emptyHp, 0⟩) Q) (Fin (q .ret ⟨ofLive [4] [bV false], emptyHp, 0⟩) Q)
  | [], pre, kk, hxs, hk => by
    obtain ⟨kk, rfl⟩ : ∃ m, kk = m + 1 := ⟨kk - 1, by simp at hk; omega⟩
    have h1 : decide ((pre.length : Int) < (s.prog).length) = false := by simp [hxs]
    simp (config := { contextual := true, dsimp := false, implicitDefEqProofs := false, maxSteps := 5000000 }) only [gLs, ↓un_c (c84_1.eq_1), h1, boolP_t, List.all_nil, go_sem, Nat.reduceEqDiff, Nat.reduceAdd, Nat.reduceLeDiff, Nat.reduceMul, Nat.reduceLT, Nat.reduceBEq, Int.reduceLT, Int.reduceLE, Int.reduceToNat, Int.reduceAdd, Int.reduceSub, Int.reduceEq, Int.reduceNeg, ↓reduceIte]
  | a :: suf, pre, kk, hxs, hk => by
    obtain ⟨kk, rfl⟩ : ∃ m, kk = m + 1 := ⟨kk - 1, by simp at hk; omega⟩
    have hl : pre.length < (s.prog).length := by simp [hxs]
    have h2 : ((pre.length : Int) < (s.prog).length) = True := by simpa using hl
    have h3 : (0 ≤ (pre.length : Int)) = True := by simp
    have h4 := wrN pre.length (by have := hs.p; omega)
    have hg : (s.prog)[pre.length]? = some a := by simp [hxs]
    have hmem : a ∈ s.prog := by simp [hxs]
    have hw : (decide (a.code = 2) || decide (a.code = 3)) = wordIs a.code := (rfl)
    have ih := lr_words1 i k ps s hs pa b c d na nb nc nd w0 w1 w2 w3 q Q u w suf (pre ++ [a]) kk (by simp [hxs]) (by simpa using hk)
    rw [append_len1] at ih
    simp only [List.all_cons]
    cases hwi : wordIs a.code
    · rw [show (!false || wThere ⟨w0, w1, w2, w3⟩ a.b a.c) = true from rfl, Bool.true_and]
      simp (config := { contextual := true, dsimp := false, implicitDefEqProofs := false, maxSteps := 5000000 }) only [gLs, ↓un_c (c84_1.eq_1), h2, h3, h4, hg, hw, hwi, ih, go_sem, Nat.reduceEqDiff, Nat.reduceAdd, Nat.reduceLeDiff, Nat.reduceMul, Nat.reduceLT, Nat.reduceBEq, Int.reduceLT, Int.reduceLE, Int.reduceToNat, Int.reduceAdd, Int.reduceSub, Int.reduceEq, Int.reduceNeg, ↓reduceIte]
    · rw [show (!true || wThere ⟨w0, w1, w2, w3⟩ a.b a.c) = wThere ⟨w0, w1, w2, w3⟩ a.b a.c from rfl]
      cases hb : wThere ⟨w0, w1, w2, w3⟩ a.b a.c
      · rw [Bool.false_and]
        simp (config := { contextual := true, dsimp := false, implicitDefEqProofs := false, maxSteps := 5000000 }) only [gLs, ↓un_c (c84_1.eq_1), h2, h3, h4, hg, hw, hwi, hb, boolP_f, go_sem, Nat.reduceEqDiff, Nat.reduceAdd, Nat.reduceLeDiff, Nat.reduceMul, Nat.reduceLT, Nat.reduceBEq, Int.reduceLT, Int.reduceLE, Int.reduceToNat, Int.reduceAdd, Int.reduceSub, Int.reduceEq, Int.reduceNeg, ↓reduceIte]
      · rw [Bool.true_and]
        simp (config := { contextual := true, dsimp := false, implicitDefEqProofs := false, maxSteps := 5000000 }) only [gLs, ↓un_c (c84_1.eq_1), h2, h3, h4, hg, hw, hwi, hb, ih, go_sem, Nat.reduceEqDiff, Nat.reduceAdd, Nat.reduceLeDiff, Nat.reduceMul, Nat.reduceLT, Nat.reduceBEq, Int.reduceLT, Int.reduceLE, Int.reduceToNat, Int.reduceAdd, Int.reduceSub, Int.reduceEq, Int.reduceNeg, ↓reduceIte]


theorem lr_words2 (i k : Nat) (ps : Bool) (s : TSess) (hs : SmS s) (pa b c d na nb nc nd : Bool) (w0 w1 w2 w3 : List TWord) (q : Out → St → Option Ans) (Q : V → Hp → Nat → Prop) (u : Dum (fun s q => evC ctx (Lv ctx (i + 4)) (pureOf (Lv ctx (i + 4))) k c84_2 s (restK [2, 3, 7] q))) (w : Dum q) : ∀ (suf pre : List TWrite) (kk : Nat), s.writes = pre ++ suf → suf.length < kk →
    GL 0 [2, 3, 7] (fun s q => evC ctx (Lv ctx (i + 4)) (pureOf (Lv ctx (i + 4))) k c84_2 s (restK [2, 3, 7] q)) q kk ⟨ofLive [2, 3, 7] [.ip (pa && (b && (c && d))) [.isl pa na 3 (w0.map eW), .isl b nb 3 (w1.map eW), .isl c nc 3 (w2.map eW), .isl d nd 3 (w3.map eW)] 0, .ip ps [iV s.id, iV s.label, iV s.clear, eIs ps s.prog, iV s.step, iV s.pc, iV s.regs.a0, iV s.regs.a1, iV s.regs.a2, iV s.regs.a3, eRs ps s.reads, eWrs ps s.writes, iV s.at_, iV s.stamp, iV s.tries, iV s.result, iV s.told] 0, iV pre.length], emptyHp, 0⟩ Q u w = boolP (suf.all fun a => wThere ⟨w0, w1, w2, w3⟩ a.level a.index) (Fin (q (.exit 2) ⟨ofLive [2, 3] [.ip (pa && (b && (c && d))) [.isl pa na 3 (w0.map eW), .isl b nb 3 (w1.map eW), .isl c nc 3 (w2.map eW), .isl d nd 3 (w3.map eW)] 0, .ip ps [iV s.id, iV s.label, iV s.clear, eIs ps s.prog, iV s.step, iV s.pc, iV s.regs.a0, iV s.regs.a1, iV s.regs.a2, iV s.regs.a3, eRs ps s.reads, eWrs ps s.writes, iV s.at_, iV s.stamp, iV s.tries, iV s.result, iV s.told] 0], emptyHp, 0⟩) Q) (Fin (q .ret ⟨ofLive [4] [bV false], emptyHp, 0⟩) Q)
  | [], pre, kk, hxs, hk => by
    obtain ⟨kk, rfl⟩ : ∃ m, kk = m + 1 := ⟨kk - 1, by simp at hk; omega⟩
    have h1 : decide ((pre.length : Int) < (s.writes).length) = false := by simp [hxs]
    simp (config := { contextual := true, dsimp := false, implicitDefEqProofs := false, maxSteps := 5000000 }) only [gLs, ↓un_c (c84_2.eq_1), h1, boolP_t, List.all_nil, go_sem, Nat.reduceEqDiff, Nat.reduceAdd, Nat.reduceLeDiff, Nat.reduceMul, Nat.reduceLT, Nat.reduceBEq, Int.reduceLT, Int.reduceLE, Int.reduceToNat, Int.reduceAdd, Int.reduceSub, Int.reduceEq, Int.reduceNeg, ↓reduceIte]
  | a :: suf, pre, kk, hxs, hk => by
    obtain ⟨kk, rfl⟩ : ∃ m, kk = m + 1 := ⟨kk - 1, by simp at hk; omega⟩
    have hl : pre.length < (s.writes).length := by simp [hxs]
    have h2 : ((pre.length : Int) < (s.writes).length) = True := by simpa using hl
    have h3 : (0 ≤ (pre.length : Int)) = True := by simp
    have h4 := wrN pre.length (by have := hs.w; omega)
    have hg : (s.writes)[pre.length]? = some a := by simp [hxs]
    have hmem : a ∈ s.writes := by simp [hxs]
    have ih := lr_words2 i k ps s hs pa b c d na nb nc nd w0 w1 w2 w3 q Q u w suf (pre ++ [a]) kk (by simp [hxs]) (by simpa using hk)
    rw [append_len1] at ih
    simp only [List.all_cons]
    cases hb : (wThere ⟨w0, w1, w2, w3⟩ a.level a.index)
    · rw [Bool.false_and]
      repeat simp (config := { contextual := true, dsimp := false, implicitDefEqProofs := false, maxSteps := 5000000 }) only [gLs, ↓un_c (c84_2.eq_1), h2, h3, h4, hg, hb, boolP_f, go_sem, Nat.reduceEqDiff, Nat.reduceAdd, Nat.reduceLeDiff, Nat.reduceMul, Nat.reduceLT, Nat.reduceBEq, Int.reduceLT, Int.reduceLE, Int.reduceToNat, Int.reduceAdd, Int.reduceSub, Int.reduceEq, Int.reduceNeg, ↓reduceIte]
    · rw [Bool.true_and]
      repeat simp (config := { contextual := true, dsimp := false, implicitDefEqProofs := false, maxSteps := 5000000 }) only [gLs, ↓un_c (c84_2.eq_1), h2, h3, h4, hg, hb, ih, go_sem, Nat.reduceEqDiff, Nat.reduceAdd, Nat.reduceLeDiff, Nat.reduceMul, Nat.reduceLT, Nat.reduceBEq, Int.reduceLT, Int.reduceLE, Int.reduceToNat, Int.reduceAdd, Int.reduceSub, Int.reduceEq, Int.reduceNeg, ↓reduceIte]


theorem r_words (i : Nat) (ps : Bool) (s : TSess) (hs : SmS s) (a b c d na nb nc nd : Bool) (w0 w1 w2 w3 : List TWord) : pureOf (Lv ctx (i + 5)) 84 [.agg [.isl a na 3 (w0.map eW), .isl b nb 3 (w1.map eW), .isl c nc 3 (w2.map eW), .isl d nd 3 (w3.map eW)], eS ps s] = some (bV (progThere ⟨w0, w1, w2, w3⟩ s.prog && writesThere ⟨w0, w1, w2, w3⟩ s.writes && readsThere ⟨w0, w1, w2, w3⟩ s.reads)) := by
  have hr := r_rthere (i + 0) ps false s.reads hs.r a b c d na nb nc nd w0 w1 w2 w3
  simp only [Nat.add_assoc, Nat.reduceAdd] at hr
  simp only [eS]
  refine sp_of rfl (s.prog.length + s.writes.length + 1) (by rfl) ?_
  delta c84
  have h1 := fun q Q u w => lr_words1 i (s.prog.length + s.writes.length + 1) ps s hs a b c d na nb nc nd w0 w1 w2 w3 q Q u w s.prog [] (s.prog.length + s.writes.length + 1) rfl (by omega)
  have h2 := fun q Q u w => lr_words2 i (s.prog.length + s.writes.length + 1) ps s hs a b c d na nb nc nd w0 w1 w2 w3 q Q u w s.writes [] (s.prog.length + s.writes.length + 1) rfl (by omega)
  simp only [List.length_nil, Int.natCast_zero] at h1 h2
  simp (config := { contextual := true, dsimp := false, implicitDefEqProofs := false, maxSteps := 5000000 }) only [Bool.and_self, progThere, writesThere, go_sem, Nat.reduceEqDiff, Nat.reduceAdd, Nat.reduceLeDiff, Nat.reduceMul, Nat.reduceLT, Nat.reduceBEq, Int.reduceLT, Int.reduceLE, Int.reduceToNat, Int.reduceAdd, Int.reduceSub, Int.reduceEq, Int.reduceNeg, ↓reduceIte]
  refine Eq.mpr (h1 _ _ _ _) ?_
  cases hb : (s.prog.all fun a => !(wordIs a.code) || wThere ⟨w0, w1, w2, w3⟩ a.b a.c)
  · simp (config := { contextual := true, dsimp := false, implicitDefEqProofs := false, maxSteps := 5000000 }) only [boolP_f, go_sem, Nat.reduceEqDiff, Nat.reduceAdd, Nat.reduceLeDiff, Nat.reduceMul, Nat.reduceLT, Nat.reduceBEq, Int.reduceLT, Int.reduceLE, Int.reduceToNat, Int.reduceAdd, Int.reduceSub, Int.reduceEq, Int.reduceNeg, ↓reduceIte]
  · simp (config := { contextual := true, dsimp := false, implicitDefEqProofs := false, maxSteps := 5000000 }) only [boolP_t, go_sem, Nat.reduceEqDiff, Nat.reduceAdd, Nat.reduceLeDiff, Nat.reduceMul, Nat.reduceLT, Nat.reduceBEq, Int.reduceLT, Int.reduceLE, Int.reduceToNat, Int.reduceAdd, Int.reduceSub, Int.reduceEq, Int.reduceNeg, ↓reduceIte]
    refine Eq.mpr (h2 _ _ _ _) ?_
    cases hb' : (s.writes.all fun a => wThere ⟨w0, w1, w2, w3⟩ a.level a.index) <;> simp (config := { contextual := true, dsimp := false, implicitDefEqProofs := false, maxSteps := 5000000 }) only [boolP_t, boolP_f, hr, go_sem, Nat.reduceEqDiff, Nat.reduceAdd, Nat.reduceLeDiff, Nat.reduceMul, Nat.reduceLT, Nat.reduceBEq, Int.reduceLT, Int.reduceLE, Int.reduceToNat, Int.reduceAdd, Int.reduceSub, Int.reduceEq, Int.reduceNeg, ↓reduceIte]

end Ve
