/- Undoing: the reference's. -/
import Derived.Test.YtdmcpcghdegheaaGreatVsD
set_option linter.all false
set_option linter.unusedSectionVars false
namespace Ve
open Go Ve.Ab
set_option maxRecDepth 10000
set_option linter.unusedSimpArgs false
set_option linter.unusedVariables false
theorem ao_nil (ms : List Bool) : argsOwn ms [] = .ret ([], []) := by cases ms <;> rfl
theorem ao_t (ms : List Bool) (v : V) (r : List V) : argsOwn (true :: ms) (v :: r) = (close 0 6 v).bind fun x => if x.1.perm then (argsOwn ms r).bind fun y => .ret (x.1 :: y.1, x.2 ++ y.2) else .fail := (rfl)
theorem ao_f (ms : List Bool) (v : V) (r : List V) : argsOwn (false :: ms) (v :: r) = if v.perm then (argsOwn ms r).bind fun y => .ret (v :: y.1, y.2) else .fail := (rfl)
theorem ao_0 (v : V) (r : List V) : argsOwn [] (v :: r) = if v.perm then (argsOwn [] r).bind fun y => .ret (v :: y.1, y.2) else .fail := (rfl)
attribute [go_sem] ao_nil ao_t ao_f ao_0


theorem lr_free0 (i k : Nat) (m : TMach) (hm : SmM m) (at_ id c : Int) (hc : IntKind.wrap .i64 (id + 1) = c) (q : Out → St → Option Ans) (Q : V → Hp → Nat → Prop) : ∀ (suf pre : List TWord) (kk : Nat), m.words.a0 = pre ++ suf → suf.length < kk + 1 →
    Fin (evC ctx (Lv ctx (i + 2)) (pureOf (Lv ctx (i + 2))) k c41_1 ⟨ofLive [1, 4, 5, 6, 7, 8] [iV at_, .ptr 0 0 0, .ptr 7 0 0, iV id, iV 0, iV pre.length], hF m ((pre.map (freeW c)).map eW ++ suf.map eW) (m.words.a1.map eW) (m.words.a2.map eW) (m.words.a3.map eW), 8⟩ (restK [1, 4, 5, 6, 7, 8] fun o s => thenK (evLoop 8 [1, 4, 5, 6, 7, 8] (fun s q => evC ctx (Lv ctx (i + 2)) (pureOf (Lv ctx (i + 2))) k c41_1 s (restK [1, 4, 5, 6, 7, 8] q)) q kk) q o s)) Q = Fin (q (.exit 2) ⟨ofLive [1, 4, 5, 6, 7] [iV at_, .ptr 0 0 0, .ptr 7 0 0, iV id, iV 0], hF m ((m.words.a0.map (freeW c)).map eW) (m.words.a1.map eW) (m.words.a2.map eW) (m.words.a3.map eW), 8⟩) Q
  | [], pre, kk, hxs, hk => by
    have h1 : decide ((pre.length : Int) < (pre.length : Int)) = false := by simp
    have h2 : m.words.a0 = pre := by simp [hxs]
    rw [un_c (c41_1.eq_1)]
    simp only [List.map_nil, List.append_nil]
    rw [h2]
    simp (config := { contextual := true, dsimp := false, implicitDefEqProofs := false, maxSteps := 5000000 }) only [h1, List.length_map, go_sem, Nat.reduceEqDiff, Nat.reduceAdd, Nat.reduceLeDiff, Nat.reduceMul, Nat.reduceLT, Nat.reduceBEq, Int.reduceLT, Int.reduceLE, Int.reduceToNat, Int.reduceAdd, Int.reduceSub, Int.reduceEq, Int.reduceNeg, ↓reduceIte]
    all_goals (try rfl)
  | a :: suf, pre, kk, hxs, hk => by
    obtain ⟨kk, rfl⟩ : ∃ m, kk = m + 1 := ⟨kk - 1, by simp at hk; omega⟩
    have h2 : ((pre.length : Int) < ((((pre.map (freeW c)).map eW ++ (a :: suf).map eW).length : Nat) : Int)) = True := by simp; omega
    have h2' : ((pre.length : Int) < ((pre.length + (suf.length + 1) : Nat) : Int)) = True := by simp; omega
    have h3 : (0 ≤ (pre.length : Int)) = True := by simp
    have h4 := wrN pre.length (by have := hm.w0; rw [hxs] at this; simp at this; omega)
    have hg : ((pre.map (freeW c)).map eW ++ (a :: suf).map eW)[pre.length]? = some (eW a) := by simp
    have hset : ∀ x, ((pre.map (freeW c)).map eW ++ (a :: suf).map eW).set pre.length x = (pre.map (freeW c)).map eW ++ x :: suf.map eW := by intro x; simp [List.set_append]
    have ih := lr_free0 i k m hm at_ id c hc q Q suf (pre ++ [a]) kk (by simp [hxs]) (by simpa using hk)
    simp only [append_len1, List.map_append, List.map_cons, List.map_nil, List.append_assoc, List.cons_append, List.nil_append] at ih
    by_cases hlk : a.lock = c
    · have h5 : decide (a.lock = c) = true := by simpa using hlk
      simp only [freeW, hlk, if_true, eW] at ih
      simp only [eW, List.map_cons, freeW] at h2 hg hset ⊢
      rw [un_c (c41_1.eq_1)]
      simp (config := { contextual := true, dsimp := false, implicitDefEqProofs := false, maxSteps := 5000000 }) only [h2, h2', h3, h4, hg, hset, hc, h5, gLs, go_sem, Nat.reduceEqDiff, Nat.reduceAdd, Nat.reduceLeDiff, Nat.reduceMul, Nat.reduceLT, Nat.reduceBEq, Int.reduceLT, Int.reduceLE, Int.reduceToNat, Int.reduceAdd, Int.reduceSub, Int.reduceEq, Int.reduceNeg, ↓reduceIte]
      exact ih
    · have h5 : decide (a.lock = c) = false := by simpa using hlk
      simp only [freeW, hlk, if_false, eW] at ih
      simp only [eW, List.map_cons, freeW] at h2 hg hset ⊢
      rw [un_c (c41_1.eq_1)]
      simp (config := { contextual := true, dsimp := false, implicitDefEqProofs := false, maxSteps := 5000000 }) only [h2, h2', h3, h4, hg, hset, hc, h5, gLs, go_sem, Nat.reduceEqDiff, Nat.reduceAdd, Nat.reduceLeDiff, Nat.reduceMul, Nat.reduceLT, Nat.reduceBEq, Int.reduceLT, Int.reduceLE, Int.reduceToNat, Int.reduceAdd, Int.reduceSub, Int.reduceEq, Int.reduceNeg, ↓reduceIte]
      exact ih


theorem lr_free1 (i k : Nat) (m : TMach) (hm : SmM m) (at_ id c : Int) (hc : IntKind.wrap .i64 (id + 1) = c) (q : Out → St → Option Ans) (Q : V → Hp → Nat → Prop) : ∀ (suf pre : List TWord) (kk : Nat), m.words.a1 = pre ++ suf → suf.length < kk + 1 →
    Fin (evC ctx (Lv ctx (i + 2)) (pureOf (Lv ctx (i + 2))) k c41_1 ⟨ofLive [1, 4, 5, 6, 7, 8] [iV at_, .ptr 0 0 0, .ptr 7 0 0, iV id, iV 1, iV pre.length], hF m ((m.words.a0.map (freeW c)).map eW) ((pre.map (freeW c)).map eW ++ suf.map eW) (m.words.a2.map eW) (m.words.a3.map eW), 8⟩ (restK [1, 4, 5, 6, 7, 8] fun o s => thenK (evLoop 8 [1, 4, 5, 6, 7, 8] (fun s q => evC ctx (Lv ctx (i + 2)) (pureOf (Lv ctx (i + 2))) k c41_1 s (restK [1, 4, 5, 6, 7, 8] q)) q kk) q o s)) Q = Fin (q (.exit 2) ⟨ofLive [1, 4, 5, 6, 7] [iV at_, .ptr 0 0 0, .ptr 7 0 0, iV id, iV 1], hF m ((m.words.a0.map (freeW c)).map eW) ((m.words.a1.map (freeW c)).map eW) (m.words.a2.map eW) (m.words.a3.map eW), 8⟩) Q
  | [], pre, kk, hxs, hk => by
    have h1 : decide ((pre.length : Int) < (pre.length : Int)) = false := by simp
    have h2 : m.words.a1 = pre := by simp [hxs]
    rw [un_c (c41_1.eq_1)]
    simp only [List.map_nil, List.append_nil]
    rw [h2]
    simp (config := { contextual := true, dsimp := false, implicitDefEqProofs := false, maxSteps := 5000000 }) only [h1, List.length_map, go_sem, Nat.reduceEqDiff, Nat.reduceAdd, Nat.reduceLeDiff, Nat.reduceMul, Nat.reduceLT, Nat.reduceBEq, Int.reduceLT, Int.reduceLE, Int.reduceToNat, Int.reduceAdd, Int.reduceSub, Int.reduceEq, Int.reduceNeg, ↓reduceIte]
    all_goals (try rfl)
  | a :: suf, pre, kk, hxs, hk => by
    obtain ⟨kk, rfl⟩ : ∃ m, kk = m + 1 := ⟨kk - 1, by simp at hk; omega⟩
    have h2 : ((pre.length : Int) < ((((pre.map (freeW c)).map eW ++ (a :: suf).map eW).length : Nat) : Int)) = True := by simp; omega
    have h2' : ((pre.length : Int) < ((pre.length + (suf.length + 1) : Nat) : Int)) = True := by simp; omega
    have h3 : (0 ≤ (pre.length : Int)) = True := by simp
    have h4 := wrN pre.length (by have := hm.w1; rw [hxs] at this; simp at this; omega)
    have hg : ((pre.map (freeW c)).map eW ++ (a :: suf).map eW)[pre.length]? = some (eW a) := by simp
    have hset : ∀ x, ((pre.map (freeW c)).map eW ++ (a :: suf).map eW).set pre.length x = (pre.map (freeW c)).map eW ++ x :: suf.map eW := by intro x; simp [List.set_append]
    have ih := lr_free1 i k m hm at_ id c hc q Q suf (pre ++ [a]) kk (by simp [hxs]) (by simpa using hk)
    simp only [append_len1, List.map_append, List.map_cons, List.map_nil, List.append_assoc, List.cons_append, List.nil_append] at ih
    by_cases hlk : a.lock = c
    · have h5 : decide (a.lock = c) = true := by simpa using hlk
      simp only [freeW, hlk, if_true, eW] at ih
      simp only [eW, List.map_cons, freeW] at h2 hg hset ⊢
      rw [un_c (c41_1.eq_1)]
      simp (config := { contextual := true, dsimp := false, implicitDefEqProofs := false, maxSteps := 5000000 }) only [h2, h2', h3, h4, hg, hset, hc, h5, gLs, go_sem, Nat.reduceEqDiff, Nat.reduceAdd, Nat.reduceLeDiff, Nat.reduceMul, Nat.reduceLT, Nat.reduceBEq, Int.reduceLT, Int.reduceLE, Int.reduceToNat, Int.reduceAdd, Int.reduceSub, Int.reduceEq, Int.reduceNeg, ↓reduceIte]
      exact ih
    · have h5 : decide (a.lock = c) = false := by simpa using hlk
      simp only [freeW, hlk, if_false, eW] at ih
      simp only [eW, List.map_cons, freeW] at h2 hg hset ⊢
      rw [un_c (c41_1.eq_1)]
      simp (config := { contextual := true, dsimp := false, implicitDefEqProofs := false, maxSteps := 5000000 }) only [h2, h2', h3, h4, hg, hset, hc, h5, gLs, go_sem, Nat.reduceEqDiff, Nat.reduceAdd, Nat.reduceLeDiff, Nat.reduceMul, Nat.reduceLT, Nat.reduceBEq, Int.reduceLT, Int.reduceLE, Int.reduceToNat, Int.reduceAdd, Int.reduceSub, Int.reduceEq, Int.reduceNeg, ↓reduceIte]
      exact ih


theorem lr_free2 (i k : Nat) (m : TMach) (hm : SmM m) (at_ id c : Int) (hc : IntKind.wrap .i64 (id + 1) = c) (q : Out → St → Option Ans) (Q : V → Hp → Nat → Prop) : ∀ (suf pre : List TWord) (kk : Nat), m.words.a2 = pre ++ suf → suf.length < kk + 1 →
    Fin (evC ctx (Lv ctx (i + 2)) (pureOf (Lv ctx (i + 2))) k c41_1 ⟨ofLive [1, 4, 5, 6, 7, 8] [iV at_, .ptr 0 0 0, .ptr 7 0 0, iV id, iV 2, iV pre.length], hF m ((m.words.a0.map (freeW c)).map eW) ((m.words.a1.map (freeW c)).map eW) ((pre.map (freeW c)).map eW ++ suf.map eW) (m.words.a3.map eW), 8⟩ (restK [1, 4, 5, 6, 7, 8] fun o s => thenK (evLoop 8 [1, 4, 5, 6, 7, 8] (fun s q => evC ctx (Lv ctx (i + 2)) (pureOf (Lv ctx (i + 2))) k c41_1 s (restK [1, 4, 5, 6, 7, 8] q)) q kk) q o s)) Q = Fin (q (.exit 2) ⟨ofLive [1, 4, 5, 6, 7] [iV at_, .ptr 0 0 0, .ptr 7 0 0, iV id, iV 2], hF m ((m.words.a0.map (freeW c)).map eW) ((m.words.a1.map (freeW c)).map eW) ((m.words.a2.map (freeW c)).map eW) (m.words.a3.map eW), 8⟩) Q
  | [], pre, kk, hxs, hk => by
    have h1 : decide ((pre.length : Int) < (pre.length : Int)) = false := by simp
    have h2 : m.words.a2 = pre := by simp [hxs]
    rw [un_c (c41_1.eq_1)]
    simp only [List.map_nil, List.append_nil]
    rw [h2]
    simp (config := { contextual := true, dsimp := false, implicitDefEqProofs := false, maxSteps := 5000000 }) only [h1, List.length_map, go_sem, Nat.reduceEqDiff, Nat.reduceAdd, Nat.reduceLeDiff, Nat.reduceMul, Nat.reduceLT, Nat.reduceBEq, Int.reduceLT, Int.reduceLE, Int.reduceToNat, Int.reduceAdd, Int.reduceSub, Int.reduceEq, Int.reduceNeg, ↓reduceIte]
    all_goals (try rfl)
  | a :: suf, pre, kk, hxs, hk => by
    obtain ⟨kk, rfl⟩ : ∃ m, kk = m + 1 := ⟨kk - 1, by simp at hk; omega⟩
    have h2 : ((pre.length : Int) < ((((pre.map (freeW c)).map eW ++ (a :: suf).map eW).length : Nat) : Int)) = True := by simp; omega
    have h2' : ((pre.length : Int) < ((pre.length + (suf.length + 1) : Nat) : Int)) = True := by simp; omega
    have h3 : (0 ≤ (pre.length : Int)) = True := by simp
    have h4 := wrN pre.length (by have := hm.w2; rw [hxs] at this; simp at this; omega)
    have hg : ((pre.map (freeW c)).map eW ++ (a :: suf).map eW)[pre.length]? = some (eW a) := by simp
    have hset : ∀ x, ((pre.map (freeW c)).map eW ++ (a :: suf).map eW).set pre.length x = (pre.map (freeW c)).map eW ++ x :: suf.map eW := by intro x; simp [List.set_append]
    have ih := lr_free2 i k m hm at_ id c hc q Q suf (pre ++ [a]) kk (by simp [hxs]) (by simpa using hk)
    simp only [append_len1, List.map_append, List.map_cons, List.map_nil, List.append_assoc, List.cons_append, List.nil_append] at ih
    by_cases hlk : a.lock = c
    · have h5 : decide (a.lock = c) = true := by simpa using hlk
      simp only [freeW, hlk, if_true, eW] at ih
      simp only [eW, List.map_cons, freeW] at h2 hg hset ⊢
      rw [un_c (c41_1.eq_1)]
      simp (config := { contextual := true, dsimp := false, implicitDefEqProofs := false, maxSteps := 5000000 }) only [h2, h2', h3, h4, hg, hset, hc, h5, gLs, go_sem, Nat.reduceEqDiff, Nat.reduceAdd, Nat.reduceLeDiff, Nat.reduceMul, Nat.reduceLT, Nat.reduceBEq, Int.reduceLT, Int.reduceLE, Int.reduceToNat, Int.reduceAdd, Int.reduceSub, Int.reduceEq, Int.reduceNeg, ↓reduceIte]
      exact ih
    · have h5 : decide (a.lock = c) = false := by simpa using hlk
      simp only [freeW, hlk, if_false, eW] at ih
      simp only [eW, List.map_cons, freeW] at h2 hg hset ⊢
      rw [un_c (c41_1.eq_1)]
      simp (config := { contextual := true, dsimp := false, implicitDefEqProofs := false, maxSteps := 5000000 }) only [h2, h2', h3, h4, hg, hset, hc, h5, gLs, go_sem, Nat.reduceEqDiff, Nat.reduceAdd, Nat.reduceLeDiff, Nat.reduceMul, Nat.reduceLT, Nat.reduceBEq, Int.reduceLT, Int.reduceLE, Int.reduceToNat, Int.reduceAdd, Int.reduceSub, Int.reduceEq, Int.reduceNeg, ↓reduceIte]
      exact ih


theorem lr_free3 (i k : Nat) (m : TMach) (hm : SmM m) (at_ id c : Int) (hc : IntKind.wrap .i64 (id + 1) = c) (q : Out → St → Option Ans) (Q : V → Hp → Nat → Prop) : ∀ (suf pre : List TWord) (kk : Nat), m.words.a3 = pre ++ suf → suf.length < kk + 1 →
    Fin (evC ctx (Lv ctx (i + 2)) (pureOf (Lv ctx (i + 2))) k c41_1 ⟨ofLive [1, 4, 5, 6, 7, 8] [iV at_, .ptr 0 0 0, .ptr 7 0 0, iV id, iV 3, iV pre.length], hF m ((m.words.a0.map (freeW c)).map eW) ((m.words.a1.map (freeW c)).map eW) ((m.words.a2.map (freeW c)).map eW) ((pre.map (freeW c)).map eW ++ suf.map eW), 8⟩ (restK [1, 4, 5, 6, 7, 8] fun o s => thenK (evLoop 8 [1, 4, 5, 6, 7, 8] (fun s q => evC ctx (Lv ctx (i + 2)) (pureOf (Lv ctx (i + 2))) k c41_1 s (restK [1, 4, 5, 6, 7, 8] q)) q kk) q o s)) Q = Fin (q (.exit 2) ⟨ofLive [1, 4, 5, 6, 7] [iV at_, .ptr 0 0 0, .ptr 7 0 0, iV id, iV 3], hF m ((m.words.a0.map (freeW c)).map eW) ((m.words.a1.map (freeW c)).map eW) ((m.words.a2.map (freeW c)).map eW) ((m.words.a3.map (freeW c)).map eW), 8⟩) Q
  | [], pre, kk, hxs, hk => by
    have h1 : decide ((pre.length : Int) < (pre.length : Int)) = false := by simp
    have h2 : m.words.a3 = pre := by simp [hxs]
    rw [un_c (c41_1.eq_1)]
    simp only [List.map_nil, List.append_nil]
    rw [h2]
    simp (config := { contextual := true, dsimp := false, implicitDefEqProofs := false, maxSteps := 5000000 }) only [h1, List.length_map, go_sem, Nat.reduceEqDiff, Nat.reduceAdd, Nat.reduceLeDiff, Nat.reduceMul, Nat.reduceLT, Nat.reduceBEq, Int.reduceLT, Int.reduceLE, Int.reduceToNat, Int.reduceAdd, Int.reduceSub, Int.reduceEq, Int.reduceNeg, ↓reduceIte]
    all_goals (try rfl)
  | a :: suf, pre, kk, hxs, hk => by
    obtain ⟨kk, rfl⟩ : ∃ m, kk = m + 1 := ⟨kk - 1, by simp at hk; omega⟩
    have h2 : ((pre.length : Int) < ((((pre.map (freeW c)).map eW ++ (a :: suf).map eW).length : Nat) : Int)) = True := by simp; omega
    have h2' : ((pre.length : Int) < ((pre.length + (suf.length + 1) : Nat) : Int)) = True := by simp; omega
    have h3 : (0 ≤ (pre.length : Int)) = True := by simp
    have h4 := wrN pre.length (by have := hm.w3; rw [hxs] at this; simp at this; omega)
    have hg : ((pre.map (freeW c)).map eW ++ (a :: suf).map eW)[pre.length]? = some (eW a) := by simp
    have hset : ∀ x, ((pre.map (freeW c)).map eW ++ (a :: suf).map eW).set pre.length x = (pre.map (freeW c)).map eW ++ x :: suf.map eW := by intro x; simp [List.set_append]
    have ih := lr_free3 i k m hm at_ id c hc q Q suf (pre ++ [a]) kk (by simp [hxs]) (by simpa using hk)
    simp only [append_len1, List.map_append, List.map_cons, List.map_nil, List.append_assoc, List.cons_append, List.nil_append] at ih
    by_cases hlk : a.lock = c
    · have h5 : decide (a.lock = c) = true := by simpa using hlk
      simp only [freeW, hlk, if_true, eW] at ih
      simp only [eW, List.map_cons, freeW] at h2 hg hset ⊢
      rw [un_c (c41_1.eq_1)]
      simp (config := { contextual := true, dsimp := false, implicitDefEqProofs := false, maxSteps := 5000000 }) only [h2, h2', h3, h4, hg, hset, hc, h5, gLs, go_sem, Nat.reduceEqDiff, Nat.reduceAdd, Nat.reduceLeDiff, Nat.reduceMul, Nat.reduceLT, Nat.reduceBEq, Int.reduceLT, Int.reduceLE, Int.reduceToNat, Int.reduceAdd, Int.reduceSub, Int.reduceEq, Int.reduceNeg, ↓reduceIte]
      exact ih
    · have h5 : decide (a.lock = c) = false := by simpa using hlk
      simp only [freeW, hlk, if_false, eW] at ih
      simp only [eW, List.map_cons, freeW] at h2 hg hset ⊢
      rw [un_c (c41_1.eq_1)]
      simp (config := { contextual := true, dsimp := false, implicitDefEqProofs := false, maxSteps := 5000000 }) only [h2, h2', h3, h4, hg, hset, hc, h5, gLs, go_sem, Nat.reduceEqDiff, Nat.reduceAdd, Nat.reduceLeDiff, Nat.reduceMul, Nat.reduceLT, Nat.reduceBEq, Int.reduceLT, Int.reduceLE, Int.reduceToNat, Int.reduceAdd, Int.reduceSub, Int.reduceEq, Int.reduceNeg, ↓reduceIte]
      exact ih


theorem r_loose (i : Nat) (pf : Bool) (m : TMach) (hm : SmM m) (k : Nat) (s : TSess) (hs : m.sess[k]? = some s) : pureOf (Lv ctx (i + 3)) 41 [eM pf m, iV k] = some (oM (setS (freeM (IntKind.wrap .i64 (s.id + 1)) m) k (dropS s))) := by
  have hk := get_lt hs
  have h1 : (0 ≤ (k : Int)) = True := by simp
  have h2 : ((k : Int) < (m.sess.length : Int)) = True := by simpa using hk
  have h3 : (m.sess.map oS)[k]? = some (oS s) := by simp [hs]
  have h4 : ∀ x y, ((m.sess.map oS).set k x).set k y = (m.sess.map oS).set k y := fun x y => List.set_set ..
  have h5 : ∀ x, ((m.sess.map oS).set k x)[k]? = some x := fun x => List.getElem?_set_self (by simpa using hk)
  have hc := r_copy (i + 0) pf m hm
  have l0 := fun q Q => lr_free0 i (m.words.a0.length + m.words.a1.length + m.words.a2.length + m.words.a3.length + 5) m hm k s.id (IntKind.wrap .i64 (s.id + 1)) rfl q Q m.words.a0 [] (m.words.a0.length + m.words.a1.length + m.words.a2.length + m.words.a3.length + 4) rfl (by omega)
  have l1 := fun q Q => lr_free1 i (m.words.a0.length + m.words.a1.length + m.words.a2.length + m.words.a3.length + 5) m hm k s.id (IntKind.wrap .i64 (s.id + 1)) rfl q Q m.words.a1 [] (m.words.a0.length + m.words.a1.length + m.words.a2.length + m.words.a3.length + 4) rfl (by omega)
  have l2 := fun q Q => lr_free2 i (m.words.a0.length + m.words.a1.length + m.words.a2.length + m.words.a3.length + 5) m hm k s.id (IntKind.wrap .i64 (s.id + 1)) rfl q Q m.words.a2 [] (m.words.a0.length + m.words.a1.length + m.words.a2.length + m.words.a3.length + 4) rfl (by omega)
  have l3 := fun q Q => lr_free3 i (m.words.a0.length + m.words.a1.length + m.words.a2.length + m.words.a3.length + 5) m hm k s.id (IntKind.wrap .i64 (s.id + 1)) rfl q Q m.words.a3 [] (m.words.a0.length + m.words.a1.length + m.words.a2.length + m.words.a3.length + 4) rfl (by omega)
  simp only [Nat.add_assoc, Nat.reduceAdd, oS] at hc h3
  simp only [List.map_nil, List.nil_append, List.length_nil, cast0] at l0 l1 l2 l3
  refine sp_of rfl (m.words.a0.length + m.words.a1.length + m.words.a2.length + m.words.a3.length + 5) (by rfl) ?_
  delta c41
  simp (config := { contextual := true, dsimp := false, implicitDefEqProofs := false, maxSteps := 5000000 }) only [hc, hs, h1, h2, h3, h4, h5, gLs, ↓l0, ↓l1, ↓l2, ↓l3, l0, l1, l2, l3, ↓un_c (c41_2.eq_1), List.length_set, go_sem, Nat.reduceEqDiff, Nat.reduceAdd, Nat.reduceLeDiff, Nat.reduceMul, Nat.reduceLT, Nat.reduceBEq, Int.reduceLT, Int.reduceLE, Int.reduceToNat, Int.reduceAdd, Int.reduceSub, Int.reduceEq, Int.reduceNeg, ↓reduceIte]
  simp only [oM, cO, oWs, oSs, oEs, setS, freeM, List.map_set, dropS]
  all_goals rfl
theorem r_tell (i : Nat) (m : TMach) (k : Nat) (s : TSess) (hs : m.sess[k]? = some s) (kd vl : Int) : pureOf (Lv ctx (i + 1)) 42 [oM m, iV k, iV kd, iV vl] = some (oM (tellM m ⟨s.id, s.label, kd, vl⟩)) := by
  have hk := get_lt hs
  have h1 : (0 ≤ (k : Int)) = True := by simp
  have h2 : ((k : Int) < (m.sess.length : Int)) = True := by simpa using hk
  have h3 : (m.sess.map oS)[k]? = some (oS s) := by simp [hs]
  simp only [oS] at h3
  by_cases htr : m.trace.length < 512
  · have h6 : decide ((m.trace.length : Int) < 512) = true := by simp; omega
    have h7 : (((m.trace.length + 1 : Nat) : Int) * ((32 : Nat) : Int) ≤ 140737488355328) = True := by simp; omega
    refine sp_of rfl 0 (by rfl) ?_
    delta c42
    simp (config := { contextual := true, dsimp := false, implicitDefEqProofs := false, maxSteps := 5000000 }) only [h1, h2, hs, h6, h7, go_sem, Nat.reduceEqDiff, Nat.reduceAdd, Nat.reduceLeDiff, Nat.reduceMul, Nat.reduceLT, Nat.reduceBEq, Int.reduceLT, Int.reduceLE, Int.reduceToNat, Int.reduceAdd, Int.reduceSub, Int.reduceEq, Int.reduceNeg, ↓reduceIte]
    simp only [oM, cO, oWs, oSs, oEs, tellM, htr, if_true, List.map_append]
    rfl
  · have h6 : decide ((m.trace.length : Int) < 512) = false := by simp; omega
    refine sp_of rfl 0 (by rfl) ?_
    delta c42
    simp (config := { contextual := true, dsimp := false, implicitDefEqProofs := false, maxSteps := 5000000 }) only [h6, go_sem, Nat.reduceEqDiff, Nat.reduceAdd, Nat.reduceLeDiff, Nat.reduceMul, Nat.reduceLT, Nat.reduceBEq, Int.reduceLT, Int.reduceLE, Int.reduceToNat, Int.reduceAdd, Int.reduceSub, Int.reduceEq, Int.reduceNeg, ↓reduceIte]
    simp only [oM, cO, oWs, oSs, oEs, tellM, htr, if_false]

end Ve

/- Undoing: the reference's, on. -/
namespace Ve
open Go Ve.Ab
set_option maxRecDepth 10000
set_option linter.unusedSimpArgs false
set_option linter.unusedVariables false
theorem r_again (i : Nat) (pf : Bool) (m : TMach) (hm : SmM m) (at_ kind : Int) : pureOf (Lv ctx (i + 9)) 16 [eM pf m, iV at_, iV kind] = some (.tup [oM (againM m at_ kind).1, iV (againM m at_ kind).2]) := by
  have ht := r_here (i + 0) pf m at_ hm
  simp only [Nat.add_assoc, Nat.reduceAdd] at ht
  have h2 : ∀ a b c : Bool, (!a || !b && !c) = !(a && (b || c)) := by decide
  have h3 := h2 (hereM m at_) (decide (kind = 3)) (decide (kind = 5))
  cases h1 : (hereM m at_ && (decide (kind = 3) || decide (kind = 5))) <;> rw [h1] at h3
  · refine sp_of rfl 0 (by rfl) ?_
    delta c16
    simp (config := { contextual := true, dsimp := false, implicitDefEqProofs := false, maxSteps := 5000000 }) only [ht, h3, go_sem, Nat.reduceEqDiff, Nat.reduceAdd, Nat.reduceLeDiff, Nat.reduceMul, Nat.reduceLT, Nat.reduceBEq, Int.reduceLT, Int.reduceLE, Int.reduceToNat, Int.reduceAdd, Int.reduceSub, Int.reduceEq, Int.reduceNeg, ↓reduceIte]
    simp only [againM, h1]
    rfl
  · have hh : hereM m at_ = true := by simp only [Bool.and_eq_true] at h1; exact h1.1
    obtain ⟨s, k, rfl, hs, hk⟩ := here_get hh
    have hm1 : againM m k kind = (tellM (setS (freeM (IntKind.wrap .i64 (s.id + 1)) m) k (againS s)) ⟨s.id, s.label, kind, minT s.tries⟩, 0) := by
      simp only [againM, h1, if_true, Int.toNat_natCast, hs]
    have hl := r_loose (i + 5) pf m hm k s hs
    have htl := r_tell (i + 7) (setS (freeM (IntKind.wrap .i64 (s.id + 1)) m) k (againS s)) k (againS s) (by simp [setS, freeM, hk]) kind (minT s.tries)
    have e1 : (0 ≤ (k : Int)) = True := by simp
    have e2 : ((k : Int) < (m.sess.length : Int)) = True := by simpa using hk
    have e4 : ∀ x y, ((m.sess.map oS).set k x).set k y = (m.sess.map oS).set k y := fun x y => List.set_set ..
    have e5 : ∀ x, ((m.sess.map oS).set k x)[k]? = some x := fun x => List.getElem?_set_self (by simpa using hk)
    simp only [Nat.add_assoc, Nat.reduceAdd, oM, cO, oWs, oSs, oEs, setS, freeM, List.map_set, dropS, oS] at hl
    simp only [Nat.add_assoc, Nat.reduceAdd, oM, cO, oWs, oSs, oEs, setS, freeM, List.map_set, againS, dropS, oS, minT] at htl
    rw [hm1]
    refine sp_of rfl 0 (by rfl) ?_
    delta c16
    simp (config := { contextual := true, dsimp := false, implicitDefEqProofs := false, maxSteps := 5000000 }) only [ht, h3, hl, htl, hs, e1, e2, e4, e5, List.length_set, go_sem, Nat.reduceEqDiff, Nat.reduceAdd, Nat.reduceLeDiff, Nat.reduceMul, Nat.reduceLT, Nat.reduceBEq, Int.reduceLT, Int.reduceLE, Int.reduceToNat, Int.reduceAdd, Int.reduceSub, Int.reduceEq, Int.reduceNeg, ↓reduceIte]
    simp only [oM, cO, oWs, oSs, oEs, setS, freeM, List.map_set, againS, dropS, oS, minT]
theorem r_end (i : Nat) (pf : Bool) (m : TMach) (hm : SmM m) (at_ result told : Int) : pureOf (Lv ctx (i + 9)) 18 [eM pf m, iV at_, iV result, iV told] = some (.tup [oM (endM m at_ result told).1, iV (endM m at_ result told).2]) := by
  have ht := r_here (i + 0) pf m at_ hm
  simp only [Nat.add_assoc, Nat.reduceAdd] at ht
  have hf : ∀ a b : Int, (decide (0 ≤ a) && decide (a ≤ b)) = inR a b := fun _ _ => (rfl)
  have h2 : ∀ a b c : Bool, (!a || !b || !c) = !(a && b && c) := by decide
  have h3 := h2 (hereM m at_) (inR result 5) (inR told 255)
  cases h1 : (hereM m at_ && inR result 5 && inR told 255) <;> rw [h1] at h3
  · refine sp_of rfl 0 (by rfl) ?_
    delta c18
    simp (config := { contextual := true, dsimp := false, implicitDefEqProofs := false, maxSteps := 5000000 }) only [ht, h3, hf, go_sem, Nat.reduceEqDiff, Nat.reduceAdd, Nat.reduceLeDiff, Nat.reduceMul, Nat.reduceLT, Nat.reduceBEq, Int.reduceLT, Int.reduceLE, Int.reduceToNat, Int.reduceAdd, Int.reduceSub, Int.reduceEq, Int.reduceNeg, ↓reduceIte]
    simp only [endM, h1]
    rfl
  · have hh : hereM m at_ = true := by simp only [Bool.and_eq_true] at h1; exact h1.1.1
    obtain ⟨s, k, rfl, hs, hk⟩ := here_get hh
    have hm1 : endM m k result told = (tellM (setS (freeM (IntKind.wrap .i64 (s.id + 1)) m) k (endS s result told)) ⟨s.id, s.label, 6, result⟩, 0) := by
      simp only [endM, h1, if_true, Int.toNat_natCast, hs]
    have hl := r_loose (i + 5) pf m hm k s hs
    have htl := r_tell (i + 7) (setS (freeM (IntKind.wrap .i64 (s.id + 1)) m) k (endS s result told)) k (endS s result told) (by simp [setS, freeM, hk]) 6 result
    have e1 : (0 ≤ (k : Int)) = True := by simp
    have e2 : ((k : Int) < (m.sess.length : Int)) = True := by simpa using hk
    have e4 : ∀ x y, ((m.sess.map oS).set k x).set k y = (m.sess.map oS).set k y := fun x y => List.set_set ..
    have e5 : ∀ x, ((m.sess.map oS).set k x)[k]? = some x := fun x => List.getElem?_set_self (by simpa using hk)
    simp only [Nat.add_assoc, Nat.reduceAdd, oM, cO, oWs, oSs, oEs, setS, freeM, List.map_set, dropS, oS] at hl
    simp only [Nat.add_assoc, Nat.reduceAdd, oM, cO, oWs, oSs, oEs, setS, freeM, List.map_set, endS, dropS, oS] at htl
    rw [hm1]
    refine sp_of rfl 0 (by rfl) ?_
    delta c18
    simp (config := { contextual := true, dsimp := false, implicitDefEqProofs := false, maxSteps := 5000000 }) only [ht, h3, hf, hl, htl, hs, e1, e2, e4, e5, List.length_set, go_sem, Nat.reduceEqDiff, Nat.reduceAdd, Nat.reduceLeDiff, Nat.reduceMul, Nat.reduceLT, Nat.reduceBEq, Int.reduceLT, Int.reduceLE, Int.reduceToNat, Int.reduceAdd, Int.reduceSub, Int.reduceEq, Int.reduceNeg, ↓reduceIte]
    simp only [oM, cO, oWs, oSs, oEs, setS, freeM, List.map_set, endS, dropS, oS]
end Ve

/- Same, spoiled. -/
namespace Ve
open Go Ve.Ab
set_option maxRecDepth 10000
set_option linter.unusedSimpArgs false
set_option linter.unusedVariables false
@[go_sem] theorem s_num (i : Nat) (a : Int) : pureOf (Lv ctx (i + 1)) 20 [iV a] = some (iV a) := by
  refine sp_of rfl 0 (by rfl) ?_
  delta c20
  simp (config := { contextual := true, dsimp := false, implicitDefEqProofs := false, maxSteps := 5000000 }) only [go_sem, Nat.reduceEqDiff, Nat.reduceAdd, Nat.reduceLeDiff, Nat.reduceMul, Nat.reduceLT, Nat.reduceBEq, Int.reduceLT, Int.reduceLE, Int.reduceToNat, Int.reduceAdd, Int.reduceSub, Int.reduceEq, Int.reduceNeg, ↓reduceIte]
theorem s_sameArena (i : Nat) (pa pb : Bool) (a b : A4 (List TWord)) (h0 : a.a0.length ≤ BB) (h1 : a.a1.length ≤ BB) (h2 : a.a2.length ≤ BB) (h3 : a.a3.length ≤ BB) : pureOf (Lv ctx (i + 2)) 28 [.agg [eWs pa a.a0, eWs pa a.a1, eWs pa a.a2, eWs pa a.a3], .agg [eWs pb b.a0, eWs pb b.a1, eWs pb b.a2, eWs pb b.a3]] = some (bV (decide (a = b))) := by
  have e0 := s_sameWords i pa false pb false a.a0 b.a0 h0
  have e1 := s_sameWords i pa false pb false a.a1 b.a1 h1
  have e2 := s_sameWords i pa false pb false a.a2 b.a2 h2
  have e3 := s_sameWords i pa false pb false a.a3 b.a3 h3
  have key : decide (a = b) = (decide (a.a0 = b.a0) && decide (a.a1 = b.a1) && decide (a.a2 = b.a2) && decide (a.a3 = b.a3)) := by
    rw [Bool.eq_iff_iff]
    simp only [Bool.and_eq_true, decide_eq_true_eq]
    rcases a with ⟨_, _, _, _⟩; rcases b with ⟨_, _, _, _⟩; simp [and_assoc]
  refine sp_of rfl 5 (by rfl) ?_
  delta c28
  rw [key]
  cases c0 : decide (a.a0 = b.a0)
  · simp (config := { contextual := true, dsimp := false, implicitDefEqProofs := false, maxSteps := 5000000 }) only [gLs, ↓un_c (c28_1.eq_1), e0, e1, e2, e3, c0, go_sem, Nat.reduceEqDiff, Nat.reduceAdd, Nat.reduceLeDiff, Nat.reduceMul, Nat.reduceLT, Nat.reduceBEq, Int.reduceLT, Int.reduceLE, Int.reduceToNat, Int.reduceAdd, Int.reduceSub, Int.reduceEq, Int.reduceNeg, ↓reduceIte]
  · cases c1 : decide (a.a1 = b.a1)
    · simp (config := { contextual := true, dsimp := false, implicitDefEqProofs := false, maxSteps := 5000000 }) only [gLs, ↓un_c (c28_1.eq_1), e0, e1, e2, e3, c0, c1, go_sem, Nat.reduceEqDiff, Nat.reduceAdd, Nat.reduceLeDiff, Nat.reduceMul, Nat.reduceLT, Nat.reduceBEq, Int.reduceLT, Int.reduceLE, Int.reduceToNat, Int.reduceAdd, Int.reduceSub, Int.reduceEq, Int.reduceNeg, ↓reduceIte]
    · cases c2 : decide (a.a2 = b.a2)
      · simp (config := { contextual := true, dsimp := false, implicitDefEqProofs := false, maxSteps := 5000000 }) only [gLs, ↓un_c (c28_1.eq_1), e0, e1, e2, e3, c0, c1, c2, go_sem, Nat.reduceEqDiff, Nat.reduceAdd, Nat.reduceLeDiff, Nat.reduceMul, Nat.reduceLT, Nat.reduceBEq, Int.reduceLT, Int.reduceLE, Int.reduceToNat, Int.reduceAdd, Int.reduceSub, Int.reduceEq, Int.reduceNeg, ↓reduceIte]
      · cases c3 : decide (a.a3 = b.a3) <;> simp (config := { contextual := true, dsimp := false, implicitDefEqProofs := false, maxSteps := 5000000 }) only [gLs, ↓un_c (c28_1.eq_1), e0, e1, e2, e3, c0, c1, c2, c3, go_sem, Nat.reduceEqDiff, Nat.reduceAdd, Nat.reduceLeDiff, Nat.reduceMul, Nat.reduceLT, Nat.reduceBEq, Int.reduceLT, Int.reduceLE, Int.reduceToNat, Int.reduceAdd, Int.reduceSub, Int.reduceEq, Int.reduceNeg, ↓reduceIte]


theorem l_sameM (i k : Nat) (pa pb : Bool) (a b : TMach) (hm : SmM a) (q : Out → St → Option Ans) (Q : V → Hp → Nat → Prop) (u : Dum (fun s q => evC ctx (Lv ctx (i + 2)) (pureOf (Lv ctx (i + 2))) k c19_1 s (restK [2, 3, 5] q))) (w : Dum q) : ∀ (suf suf' pre pre' : List TSess) (kk : Nat), a.sess = pre ++ suf → b.sess = pre' ++ suf' → pre.length = pre'.length → suf.length = suf'.length → suf.length < kk →
    GL 0 [2, 3, 5] (fun s q => evC ctx (Lv ctx (i + 2)) (pureOf (Lv ctx (i + 2))) k c19_1 s (restK [2, 3, 5] q)) q kk ⟨ofLive [2, 3, 5] [.ip pa (cM pa a) 0, .ip pb (cM pb b) 0, iV pre.length], emptyHp, 0⟩ Q u w = boolFin (decide (suf = suf')) q Q ⟨ofLive [] [], emptyHp, 0⟩ ⟨ofLive [4] [bV false], emptyHp, 0⟩
  | [], suf', pre, pre', kk, hxs, hys, hpl, hsl, hk => by
    obtain ⟨kk, rfl⟩ : ∃ m, kk = m + 1 := ⟨kk - 1, by simp at hk; omega⟩
    obtain rfl : suf' = [] := by cases suf' <;> simp_all
    have h1 : decide ((pre.length : Int) < a.sess.length) = false := by simp [hxs]
    simp (config := { contextual := true, dsimp := false, implicitDefEqProofs := false, maxSteps := 5000000 }) only [gLs, ↓un_c (c19_1.eq_1), h1, boolFin_t, go_sem, Nat.reduceEqDiff, Nat.reduceAdd, Nat.reduceLeDiff, Nat.reduceMul, Nat.reduceLT, Nat.reduceBEq, Int.reduceLT, Int.reduceLE, Int.reduceToNat, Int.reduceAdd, Int.reduceSub, Int.reduceEq, Int.reduceNeg, ↓reduceIte]
  | x :: suf, [], pre, pre', kk, hxs, hys, hpl, hsl, hk => by simp at hsl
  | x :: suf, y :: suf', pre, pre', kk, hxs, hys, hpl, hsl, hk => by
    obtain ⟨kk, rfl⟩ : ∃ m, kk = m + 1 := ⟨kk - 1, by simp at hk; omega⟩
    have hl : pre.length < a.sess.length := by simp [hxs]
    have hl' : pre.length < b.sess.length := by simp [hys, hpl]
    have h2 : ((pre.length : Int) < a.sess.length) = True := by simpa using hl
    have h2' : ((pre.length : Int) < b.sess.length) = True := by simpa using hl'
    have h3 : (0 ≤ (pre.length : Int)) = True := by simp
    have h4 := wrN pre.length (by have := hm.ss; omega)
    have hg : a.sess[pre.length]? = some x := by simp [hxs]
    have hg' : b.sess[pre.length]? = some y := by simp [hys, hpl]
    have ih := l_sameM i k pa pb a b hm q Q u w suf suf' (pre ++ [x]) (pre' ++ [y]) kk (by simp [hxs]) (by simp [hys]) (by simpa using hpl) (by simpa using hsl) (by simpa using hk)
    rw [append_len1] at ih
    have hx := hm.s x (by simp [hxs])
    have hs := s_sameSession i pa pb x y hx.p hx.r hx.w
    simp only [eS] at hs
    by_cases hab : x = y
    · subst hab
      have hd : decide (x :: suf = x :: suf') = decide (suf = suf') := by simp
      rw [hd]
      simp (config := { contextual := true, dsimp := false, implicitDefEqProofs := false, maxSteps := 5000000 }) only [gLs, ↓un_c (c19_1.eq_1), h2, h2', h3, h4, hg, hg', hs, ih, go_sem, Nat.reduceEqDiff, Nat.reduceAdd, Nat.reduceLeDiff, Nat.reduceMul, Nat.reduceLT, Nat.reduceBEq, Int.reduceLT, Int.reduceLE, Int.reduceToNat, Int.reduceAdd, Int.reduceSub, Int.reduceEq, Int.reduceNeg, ↓reduceIte]
    · have hne : decide (x = y) = false := by simpa using hab
      have hd : decide (x :: suf = y :: suf') = false := by simp [hab]
      rw [hd]
      rw [hne] at hs
      simp (config := { contextual := true, dsimp := false, implicitDefEqProofs := false, maxSteps := 5000000 }) only [gLs, ↓un_c (c19_1.eq_1), h2, h2', h3, h4, hg, hg', hs, boolFin_f, go_sem, Nat.reduceEqDiff, Nat.reduceAdd, Nat.reduceLeDiff, Nat.reduceMul, Nat.reduceLT, Nat.reduceBEq, Int.reduceLT, Int.reduceLE, Int.reduceToNat, Int.reduceAdd, Int.reduceSub, Int.reduceEq, Int.reduceNeg, ↓reduceIte]
theorem mach_eq (a b : TMach) : a = b ↔ (a.words = b.words ∧ (a.clocks.a0 = b.clocks.a0 ∧ a.clocks.a1 = b.clocks.a1 ∧ a.clocks.a2 = b.clocks.a2 ∧ a.clocks.a3 = b.clocks.a3) ∧ a.ceil = b.ceil ∧ a.trace = b.trace) ∧ a.sess = b.sess := by
  rcases a with ⟨_, ⟨_, _, _, _⟩, _, _, _⟩; rcases b with ⟨_, ⟨_, _, _, _⟩, _, _, _⟩; simp only [TMach.mk.injEq, A4.mk.injEq]
  constructor
  · rintro ⟨h1, ⟨h2, h3, h4, h5⟩, h6, h7, h8⟩; simp [*]
  · rintro ⟨⟨h1, ⟨h2, h3, h4, h5⟩, h6, h7⟩, h8⟩; simp [*]
theorem s_sameMachine (i : Nat) (pa pb : Bool) (a b : TMach) (hm : SmM a) : pureOf (Lv ctx (i + 3)) 19 [eM pa a, eM pb b] = some (bV (decide (a = b))) := by
  have e1 := s_sameArena i pa pb a.words b.words hm.w0 hm.w1 hm.w2 hm.w3
  have e2 := s_sameEvents (i + 1) pa false pb false a.trace b.trace hm.tr
  have hb : ∀ a b c d e f g : Bool, (!a || !(b && (c && (d && e))) || !f || !g) = !(a && (b && (c && (d && e))) && f && g) := by decide
  refine sp_of rfl (a.sess.length + 1) (by rfl) ?_
  delta c19
  have hL : decide ((a.sess.length : Int) = b.sess.length) = decide (a.sess.length = b.sess.length) := by apply decide_eq_decide.mpr; omega
  have hb5 : ∀ w c f l e : Bool, (!w || !c || !f || !l || !e) = !(w && c && f && l && e) := by decide
  cases hc : (decide (a.words = b.words) && (decide (a.clocks.a0 = b.clocks.a0) && (decide (a.clocks.a1 = b.clocks.a1) && (decide (a.clocks.a2 = b.clocks.a2) && decide (a.clocks.a3 = b.clocks.a3)))) && decide (a.ceil = b.ceil) && decide (a.sess.length = b.sess.length) && decide (a.trace = b.trace))
  · have key : decide (a = b) = false := by
      rw [← Bool.not_eq_true] at hc ⊢
      intro h
      simp only [decide_eq_true_eq] at h
      subst h
      exact hc (by simp)
    simp (config := { contextual := true, dsimp := false, implicitDefEqProofs := false, maxSteps := 5000000 }) only [e1, e2, hL, hb5, hc, key, go_sem, Nat.reduceEqDiff, Nat.reduceAdd, Nat.reduceLeDiff, Nat.reduceMul, Nat.reduceLT, Nat.reduceBEq, Int.reduceLT, Int.reduceLE, Int.reduceToNat, Int.reduceAdd, Int.reduceSub, Int.reduceEq, Int.reduceNeg, ↓reduceIte]
  · have hc' := hc
    simp only [Bool.and_eq_true, decide_eq_true_eq] at hc'
    have hlen : a.sess.length = b.sess.length := hc'.1.2
    have key : decide (a = b) = decide (a.sess = b.sess) := by
      apply decide_eq_decide.mpr
      rw [mach_eq]
      simp only [hc', and_self, true_and]
    have h2 := fun q Q u w => l_sameM i (a.sess.length + 1) pa pb a b hm q Q u w a.sess b.sess [] [] (a.sess.length + 1) rfl rfl rfl hlen (by omega)
    simp only [List.length_nil, Int.natCast_zero] at h2
    rw [key]
    simp (config := { contextual := true, dsimp := false, implicitDefEqProofs := false, maxSteps := 5000000 }) only [e1, e2, hL, hb5, hc, go_sem, Nat.reduceEqDiff, Nat.reduceAdd, Nat.reduceLeDiff, Nat.reduceMul, Nat.reduceLT, Nat.reduceBEq, Int.reduceLT, Int.reduceLE, Int.reduceToNat, Int.reduceAdd, Int.reduceSub, Int.reduceEq, Int.reduceNeg, ↓reduceIte]
    refine Eq.mpr (h2 _ _ _ _) ?_
    cases hb' : decide (a.sess = b.sess) <;> simp (config := { contextual := true, dsimp := false, implicitDefEqProofs := false, maxSteps := 5000000 }) only [boolFin_t, boolFin_f, go_sem, Nat.reduceEqDiff, Nat.reduceAdd, Nat.reduceLeDiff, Nat.reduceMul, Nat.reduceLT, Nat.reduceBEq, Int.reduceLT, Int.reduceLE, Int.reduceToNat, Int.reduceAdd, Int.reduceSub, Int.reduceEq, Int.reduceNeg, ↓reduceIte]

end Ve

/- Spoiled: what was handed out is written over. -/
namespace Ve
open Go Ve.Ab
set_option maxRecDepth 10000
set_option linter.unusedSimpArgs false
set_option linter.unusedVariables false


def spWords (a : TWord) : TWord := { a with val := xorI a.val 90 }
theorem l_spoilWords (i k : Nat) (xs : List TWord) (hx : xs.length ≤ BB) (q : Out → St → Option Ans) (Q : V → Hp → Nat → Prop) : ∀ (suf pre : List TWord) (kk : Nat), xs = pre ++ suf → suf.length < kk + 1 →
    Fin (evC ctx (Lv ctx i) (pureOf (Lv ctx i)) k c78_1 ⟨ofLive [0, 2] [.sl 0, iV pre.length], pO emptyHp 0 (some ⟨3, (pre.map spWords).map eW ++ suf.map eW, false⟩), 1⟩ (restK [0, 2] fun o s => thenK (evLoop 1 [0, 2] (fun s q => evC ctx (Lv ctx i) (pureOf (Lv ctx i)) k c78_1 s (restK [0, 2] q)) q kk) q o s)) Q =
    Fin (q (.exit 0) ⟨ofLive [] [], pO emptyHp 0 (some ⟨3, (xs.map spWords).map eW, false⟩), 1⟩) Q
  | [], pre, kk, hxs, hk => by
    have h1 : decide ((pre.length : Int) < (pre.length : Int)) = false := by simp
    have h2 : xs = pre := by simp [hxs]
    rw [un_c (c78_1.eq_1)]
    simp only [List.map_nil, List.append_nil]
    rw [h2]
    simp (config := { contextual := true, dsimp := false, implicitDefEqProofs := false, maxSteps := 5000000 }) only [h1, List.length_map, go_sem, Nat.reduceEqDiff, Nat.reduceAdd, Nat.reduceLeDiff, Nat.reduceMul, Nat.reduceLT, Nat.reduceBEq, Int.reduceLT, Int.reduceLE, Int.reduceToNat, Int.reduceAdd, Int.reduceSub, Int.reduceEq, Int.reduceNeg, ↓reduceIte]
  | a :: suf, pre, kk, hxs, hk => by
    obtain ⟨kk, rfl⟩ : ∃ m, kk = m + 1 := ⟨kk - 1, by simp at hk; omega⟩
    have h2 : ((pre.length : Int) < ((pre.length + (suf.length + 1) : Nat) : Int)) = True := by simp; omega
    have h3 : (0 ≤ (pre.length : Int)) = True := by simp
    have h4 := wrN pre.length (by rw [hxs] at hx; simp at hx; omega)
    have hg : ((pre.map spWords).map eW ++ (a :: suf).map eW)[pre.length]? = some (eW a) := by simp
    have hset : ∀ x, ((pre.map spWords).map eW ++ (a :: suf).map eW).set pre.length x = (pre.map spWords).map eW ++ x :: suf.map eW := by intro x; simp [List.set_append]
    have ih := l_spoilWords i k xs hx q Q suf (pre ++ [a]) kk (by simp [hxs]) (by simpa using hk)
    simp only [append_len1, List.map_append, List.map_cons, List.map_nil, List.append_assoc, List.cons_append, List.nil_append, eW, spWords] at ih
    simp only [eW, List.map_cons] at hg hset ⊢
    rw [un_c (c78_1.eq_1)]
    simp (config := { contextual := true, dsimp := false, implicitDefEqProofs := false, maxSteps := 5000000 }) only [h2, h3, h4, hg, hset, gLs, go_sem, Nat.reduceEqDiff, Nat.reduceAdd, Nat.reduceLeDiff, Nat.reduceMul, Nat.reduceLT, Nat.reduceBEq, Int.reduceLT, Int.reduceLE, Int.reduceToNat, Int.reduceAdd, Int.reduceSub, Int.reduceEq, Int.reduceNeg, ↓reduceIte]
    exact ih
theorem s_spoilWords (i : Nat) (xs : List TWord) (hx : xs.length ≤ BB) : pureOf (Lv ctx (i + 1)) 78 [.own 3 (xs.map eW)] = some (.tup []) := by
  refine sp_of rfl (xs.length + 1) (by rfl) ?_
  delta c78
  have hl := fun q Q => l_spoilWords i (xs.length + 1) xs hx q Q xs [] xs.length rfl (by omega)
  simp only [List.length_nil, Int.natCast_zero, List.map_nil, List.nil_append] at hl
  simp (config := { contextual := true, dsimp := false, implicitDefEqProofs := false, maxSteps := 5000000 }) only [gLs, go_sem, Nat.reduceEqDiff, Nat.reduceAdd, Nat.reduceLeDiff, Nat.reduceMul, Nat.reduceLT, Nat.reduceBEq, Int.reduceLT, Int.reduceLE, Int.reduceToNat, Int.reduceAdd, Int.reduceSub, Int.reduceEq, Int.reduceNeg, ↓reduceIte]
  refine Eq.mpr (hl _ _) ?_
  simp (config := { contextual := true, dsimp := false, implicitDefEqProofs := false, maxSteps := 5000000 }) only [go_sem, Nat.reduceEqDiff, Nat.reduceAdd, Nat.reduceLeDiff, Nat.reduceMul, Nat.reduceLT, Nat.reduceBEq, Int.reduceLT, Int.reduceLE, Int.reduceToNat, Int.reduceAdd, Int.reduceSub, Int.reduceEq, Int.reduceNeg, ↓reduceIte]


def spInsts (a : TInst) : TInst := { a with a := xorI a.a 90 }
theorem l_spoilInsts (i k : Nat) (xs : List TInst) (hx : xs.length ≤ BB) (q : Out → St → Option Ans) (Q : V → Hp → Nat → Prop) : ∀ (suf pre : List TInst) (kk : Nat), xs = pre ++ suf → suf.length < kk + 1 →
    Fin (evC ctx (Lv ctx i) (pureOf (Lv ctx i)) k c79_1 ⟨ofLive [0, 2] [.sl 0, iV pre.length], pO emptyHp 0 (some ⟨4, (pre.map spInsts).map eI ++ suf.map eI, false⟩), 1⟩ (restK [0, 2] fun o s => thenK (evLoop 1 [0, 2] (fun s q => evC ctx (Lv ctx i) (pureOf (Lv ctx i)) k c79_1 s (restK [0, 2] q)) q kk) q o s)) Q =
    Fin (q (.exit 0) ⟨ofLive [] [], pO emptyHp 0 (some ⟨4, (xs.map spInsts).map eI, false⟩), 1⟩) Q
  | [], pre, kk, hxs, hk => by
    have h1 : decide ((pre.length : Int) < (pre.length : Int)) = false := by simp
    have h2 : xs = pre := by simp [hxs]
    rw [un_c (c79_1.eq_1)]
    simp only [List.map_nil, List.append_nil]
    rw [h2]
    simp (config := { contextual := true, dsimp := false, implicitDefEqProofs := false, maxSteps := 5000000 }) only [h1, List.length_map, go_sem, Nat.reduceEqDiff, Nat.reduceAdd, Nat.reduceLeDiff, Nat.reduceMul, Nat.reduceLT, Nat.reduceBEq, Int.reduceLT, Int.reduceLE, Int.reduceToNat, Int.reduceAdd, Int.reduceSub, Int.reduceEq, Int.reduceNeg, ↓reduceIte]
  | a :: suf, pre, kk, hxs, hk => by
    obtain ⟨kk, rfl⟩ : ∃ m, kk = m + 1 := ⟨kk - 1, by simp at hk; omega⟩
    have h2 : ((pre.length : Int) < ((pre.length + (suf.length + 1) : Nat) : Int)) = True := by simp; omega
    have h3 : (0 ≤ (pre.length : Int)) = True := by simp
    have h4 := wrN pre.length (by rw [hxs] at hx; simp at hx; omega)
    have hg : ((pre.map spInsts).map eI ++ (a :: suf).map eI)[pre.length]? = some (eI a) := by simp
    have hset : ∀ x, ((pre.map spInsts).map eI ++ (a :: suf).map eI).set pre.length x = (pre.map spInsts).map eI ++ x :: suf.map eI := by intro x; simp [List.set_append]
    have ih := l_spoilInsts i k xs hx q Q suf (pre ++ [a]) kk (by simp [hxs]) (by simpa using hk)
    simp only [append_len1, List.map_append, List.map_cons, List.map_nil, List.append_assoc, List.cons_append, List.nil_append, eI, spInsts] at ih
    simp only [eI, List.map_cons] at hg hset ⊢
    rw [un_c (c79_1.eq_1)]
    simp (config := { contextual := true, dsimp := false, implicitDefEqProofs := false, maxSteps := 5000000 }) only [h2, h3, h4, hg, hset, gLs, go_sem, Nat.reduceEqDiff, Nat.reduceAdd, Nat.reduceLeDiff, Nat.reduceMul, Nat.reduceLT, Nat.reduceBEq, Int.reduceLT, Int.reduceLE, Int.reduceToNat, Int.reduceAdd, Int.reduceSub, Int.reduceEq, Int.reduceNeg, ↓reduceIte]
    exact ih
theorem s_spoilInsts (i : Nat) (xs : List TInst) (hx : xs.length ≤ BB) : pureOf (Lv ctx (i + 1)) 79 [.own 4 (xs.map eI)] = some (.tup []) := by
  refine sp_of rfl (xs.length + 1) (by rfl) ?_
  delta c79
  have hl := fun q Q => l_spoilInsts i (xs.length + 1) xs hx q Q xs [] xs.length rfl (by omega)
  simp only [List.length_nil, Int.natCast_zero, List.map_nil, List.nil_append] at hl
  simp (config := { contextual := true, dsimp := false, implicitDefEqProofs := false, maxSteps := 5000000 }) only [gLs, go_sem, Nat.reduceEqDiff, Nat.reduceAdd, Nat.reduceLeDiff, Nat.reduceMul, Nat.reduceLT, Nat.reduceBEq, Int.reduceLT, Int.reduceLE, Int.reduceToNat, Int.reduceAdd, Int.reduceSub, Int.reduceEq, Int.reduceNeg, ↓reduceIte]
  refine Eq.mpr (hl _ _) ?_
  simp (config := { contextual := true, dsimp := false, implicitDefEqProofs := false, maxSteps := 5000000 }) only [go_sem, Nat.reduceEqDiff, Nat.reduceAdd, Nat.reduceLeDiff, Nat.reduceMul, Nat.reduceLT, Nat.reduceBEq, Int.reduceLT, Int.reduceLE, Int.reduceToNat, Int.reduceAdd, Int.reduceSub, Int.reduceEq, Int.reduceNeg, ↓reduceIte]


def spReads (a : TRead) : TRead := { a with index := xorI a.index 90 }
theorem l_spoilReads (i k : Nat) (xs : List TRead) (hx : xs.length ≤ BB) (q : Out → St → Option Ans) (Q : V → Hp → Nat → Prop) : ∀ (suf pre : List TRead) (kk : Nat), xs = pre ++ suf → suf.length < kk + 1 →
    Fin (evC ctx (Lv ctx i) (pureOf (Lv ctx i)) k c80_1 ⟨ofLive [0, 2] [.sl 0, iV pre.length], pO emptyHp 0 (some ⟨3, (pre.map spReads).map eR ++ suf.map eR, false⟩), 1⟩ (restK [0, 2] fun o s => thenK (evLoop 1 [0, 2] (fun s q => evC ctx (Lv ctx i) (pureOf (Lv ctx i)) k c80_1 s (restK [0, 2] q)) q kk) q o s)) Q =
    Fin (q (.exit 0) ⟨ofLive [] [], pO emptyHp 0 (some ⟨3, (xs.map spReads).map eR, false⟩), 1⟩) Q
  | [], pre, kk, hxs, hk => by
    have h1 : decide ((pre.length : Int) < (pre.length : Int)) = false := by simp
    have h2 : xs = pre := by simp [hxs]
    rw [un_c (c80_1.eq_1)]
    simp only [List.map_nil, List.append_nil]
    rw [h2]
    simp (config := { contextual := true, dsimp := false, implicitDefEqProofs := false, maxSteps := 5000000 }) only [h1, List.length_map, go_sem, Nat.reduceEqDiff, Nat.reduceAdd, Nat.reduceLeDiff, Nat.reduceMul, Nat.reduceLT, Nat.reduceBEq, Int.reduceLT, Int.reduceLE, Int.reduceToNat, Int.reduceAdd, Int.reduceSub, Int.reduceEq, Int.reduceNeg, ↓reduceIte]
  | a :: suf, pre, kk, hxs, hk => by
    obtain ⟨kk, rfl⟩ : ∃ m, kk = m + 1 := ⟨kk - 1, by simp at hk; omega⟩
    have h2 : ((pre.length : Int) < ((pre.length + (suf.length + 1) : Nat) : Int)) = True := by simp; omega
    have h3 : (0 ≤ (pre.length : Int)) = True := by simp
    have h4 := wrN pre.length (by rw [hxs] at hx; simp at hx; omega)
    have hg : ((pre.map spReads).map eR ++ (a :: suf).map eR)[pre.length]? = some (eR a) := by simp
    have hset : ∀ x, ((pre.map spReads).map eR ++ (a :: suf).map eR).set pre.length x = (pre.map spReads).map eR ++ x :: suf.map eR := by intro x; simp [List.set_append]
    have ih := l_spoilReads i k xs hx q Q suf (pre ++ [a]) kk (by simp [hxs]) (by simpa using hk)
    simp only [append_len1, List.map_append, List.map_cons, List.map_nil, List.append_assoc, List.cons_append, List.nil_append, eR, spReads] at ih
    simp only [eR, List.map_cons] at hg hset ⊢
    rw [un_c (c80_1.eq_1)]
    simp (config := { contextual := true, dsimp := false, implicitDefEqProofs := false, maxSteps := 5000000 }) only [h2, h3, h4, hg, hset, gLs, go_sem, Nat.reduceEqDiff, Nat.reduceAdd, Nat.reduceLeDiff, Nat.reduceMul, Nat.reduceLT, Nat.reduceBEq, Int.reduceLT, Int.reduceLE, Int.reduceToNat, Int.reduceAdd, Int.reduceSub, Int.reduceEq, Int.reduceNeg, ↓reduceIte]
    exact ih
theorem s_spoilReads (i : Nat) (xs : List TRead) (hx : xs.length ≤ BB) : pureOf (Lv ctx (i + 1)) 80 [.own 3 (xs.map eR)] = some (.tup []) := by
  refine sp_of rfl (xs.length + 1) (by rfl) ?_
  delta c80
  have hl := fun q Q => l_spoilReads i (xs.length + 1) xs hx q Q xs [] xs.length rfl (by omega)
  simp only [List.length_nil, Int.natCast_zero, List.map_nil, List.nil_append] at hl
  simp (config := { contextual := true, dsimp := false, implicitDefEqProofs := false, maxSteps := 5000000 }) only [gLs, go_sem, Nat.reduceEqDiff, Nat.reduceAdd, Nat.reduceLeDiff, Nat.reduceMul, Nat.reduceLT, Nat.reduceBEq, Int.reduceLT, Int.reduceLE, Int.reduceToNat, Int.reduceAdd, Int.reduceSub, Int.reduceEq, Int.reduceNeg, ↓reduceIte]
  refine Eq.mpr (hl _ _) ?_
  simp (config := { contextual := true, dsimp := false, implicitDefEqProofs := false, maxSteps := 5000000 }) only [go_sem, Nat.reduceEqDiff, Nat.reduceAdd, Nat.reduceLeDiff, Nat.reduceMul, Nat.reduceLT, Nat.reduceBEq, Int.reduceLT, Int.reduceLE, Int.reduceToNat, Int.reduceAdd, Int.reduceSub, Int.reduceEq, Int.reduceNeg, ↓reduceIte]


def spWrites (a : TWrite) : TWrite := { a with index := xorI a.index 90 }
theorem l_spoilWrites (i k : Nat) (xs : List TWrite) (hx : xs.length ≤ BB) (q : Out → St → Option Ans) (Q : V → Hp → Nat → Prop) : ∀ (suf pre : List TWrite) (kk : Nat), xs = pre ++ suf → suf.length < kk + 1 →
    Fin (evC ctx (Lv ctx i) (pureOf (Lv ctx i)) k c81_1 ⟨ofLive [0, 2] [.sl 0, iV pre.length], pO emptyHp 0 (some ⟨3, (pre.map spWrites).map eWr ++ suf.map eWr, false⟩), 1⟩ (restK [0, 2] fun o s => thenK (evLoop 1 [0, 2] (fun s q => evC ctx (Lv ctx i) (pureOf (Lv ctx i)) k c81_1 s (restK [0, 2] q)) q kk) q o s)) Q =
    Fin (q (.exit 0) ⟨ofLive [] [], pO emptyHp 0 (some ⟨3, (xs.map spWrites).map eWr, false⟩), 1⟩) Q
  | [], pre, kk, hxs, hk => by
    have h1 : decide ((pre.length : Int) < (pre.length : Int)) = false := by simp
    have h2 : xs = pre := by simp [hxs]
    rw [un_c (c81_1.eq_1)]
    simp only [List.map_nil, List.append_nil]
    rw [h2]
    simp (config := { contextual := true, dsimp := false, implicitDefEqProofs := false, maxSteps := 5000000 }) only [h1, List.length_map, go_sem, Nat.reduceEqDiff, Nat.reduceAdd, Nat.reduceLeDiff, Nat.reduceMul, Nat.reduceLT, Nat.reduceBEq, Int.reduceLT, Int.reduceLE, Int.reduceToNat, Int.reduceAdd, Int.reduceSub, Int.reduceEq, Int.reduceNeg, ↓reduceIte]
  | a :: suf, pre, kk, hxs, hk => by
    obtain ⟨kk, rfl⟩ : ∃ m, kk = m + 1 := ⟨kk - 1, by simp at hk; omega⟩
    have h2 : ((pre.length : Int) < ((pre.length + (suf.length + 1) : Nat) : Int)) = True := by simp; omega
    have h3 : (0 ≤ (pre.length : Int)) = True := by simp
    have h4 := wrN pre.length (by rw [hxs] at hx; simp at hx; omega)
    have hg : ((pre.map spWrites).map eWr ++ (a :: suf).map eWr)[pre.length]? = some (eWr a) := by simp
    have hset : ∀ x, ((pre.map spWrites).map eWr ++ (a :: suf).map eWr).set pre.length x = (pre.map spWrites).map eWr ++ x :: suf.map eWr := by intro x; simp [List.set_append]
    have ih := l_spoilWrites i k xs hx q Q suf (pre ++ [a]) kk (by simp [hxs]) (by simpa using hk)
    simp only [append_len1, List.map_append, List.map_cons, List.map_nil, List.append_assoc, List.cons_append, List.nil_append, eWr, spWrites] at ih
    simp only [eWr, List.map_cons] at hg hset ⊢
    rw [un_c (c81_1.eq_1)]
    simp (config := { contextual := true, dsimp := false, implicitDefEqProofs := false, maxSteps := 5000000 }) only [h2, h3, h4, hg, hset, gLs, go_sem, Nat.reduceEqDiff, Nat.reduceAdd, Nat.reduceLeDiff, Nat.reduceMul, Nat.reduceLT, Nat.reduceBEq, Int.reduceLT, Int.reduceLE, Int.reduceToNat, Int.reduceAdd, Int.reduceSub, Int.reduceEq, Int.reduceNeg, ↓reduceIte]
    exact ih
theorem s_spoilWrites (i : Nat) (xs : List TWrite) (hx : xs.length ≤ BB) : pureOf (Lv ctx (i + 1)) 81 [.own 3 (xs.map eWr)] = some (.tup []) := by
  refine sp_of rfl (xs.length + 1) (by rfl) ?_
  delta c81
  have hl := fun q Q => l_spoilWrites i (xs.length + 1) xs hx q Q xs [] xs.length rfl (by omega)
  simp only [List.length_nil, Int.natCast_zero, List.map_nil, List.nil_append] at hl
  simp (config := { contextual := true, dsimp := false, implicitDefEqProofs := false, maxSteps := 5000000 }) only [gLs, go_sem, Nat.reduceEqDiff, Nat.reduceAdd, Nat.reduceLeDiff, Nat.reduceMul, Nat.reduceLT, Nat.reduceBEq, Int.reduceLT, Int.reduceLE, Int.reduceToNat, Int.reduceAdd, Int.reduceSub, Int.reduceEq, Int.reduceNeg, ↓reduceIte]
  refine Eq.mpr (hl _ _) ?_
  simp (config := { contextual := true, dsimp := false, implicitDefEqProofs := false, maxSteps := 5000000 }) only [go_sem, Nat.reduceEqDiff, Nat.reduceAdd, Nat.reduceLeDiff, Nat.reduceMul, Nat.reduceLT, Nat.reduceBEq, Int.reduceLT, Int.reduceLE, Int.reduceToNat, Int.reduceAdd, Int.reduceSub, Int.reduceEq, Int.reduceNeg, ↓reduceIte]


def spEvents (a : TEvent) : TEvent := { a with id := xorI a.id 90 }
theorem l_spoilEvents (i k : Nat) (xs : List TEvent) (hx : xs.length ≤ BB) (q : Out → St → Option Ans) (Q : V → Hp → Nat → Prop) : ∀ (suf pre : List TEvent) (kk : Nat), xs = pre ++ suf → suf.length < kk + 1 →
    Fin (evC ctx (Lv ctx i) (pureOf (Lv ctx i)) k c49_1 ⟨ofLive [0, 2] [.sl 0, iV pre.length], pO emptyHp 0 (some ⟨4, (pre.map spEvents).map eE ++ suf.map eE, false⟩), 1⟩ (restK [0, 2] fun o s => thenK (evLoop 1 [0, 2] (fun s q => evC ctx (Lv ctx i) (pureOf (Lv ctx i)) k c49_1 s (restK [0, 2] q)) q kk) q o s)) Q =
    Fin (q (.exit 0) ⟨ofLive [] [], pO emptyHp 0 (some ⟨4, (xs.map spEvents).map eE, false⟩), 1⟩) Q
  | [], pre, kk, hxs, hk => by
    have h1 : decide ((pre.length : Int) < (pre.length : Int)) = false := by simp
    have h2 : xs = pre := by simp [hxs]
    rw [un_c (c49_1.eq_1)]
    simp only [List.map_nil, List.append_nil]
    rw [h2]
    simp (config := { contextual := true, dsimp := false, implicitDefEqProofs := false, maxSteps := 5000000 }) only [h1, List.length_map, go_sem, Nat.reduceEqDiff, Nat.reduceAdd, Nat.reduceLeDiff, Nat.reduceMul, Nat.reduceLT, Nat.reduceBEq, Int.reduceLT, Int.reduceLE, Int.reduceToNat, Int.reduceAdd, Int.reduceSub, Int.reduceEq, Int.reduceNeg, ↓reduceIte]
  | a :: suf, pre, kk, hxs, hk => by
    obtain ⟨kk, rfl⟩ : ∃ m, kk = m + 1 := ⟨kk - 1, by simp at hk; omega⟩
    have h2 : ((pre.length : Int) < ((pre.length + (suf.length + 1) : Nat) : Int)) = True := by simp; omega
    have h3 : (0 ≤ (pre.length : Int)) = True := by simp
    have h4 := wrN pre.length (by rw [hxs] at hx; simp at hx; omega)
    have hg : ((pre.map spEvents).map eE ++ (a :: suf).map eE)[pre.length]? = some (eE a) := by simp
    have hset : ∀ x, ((pre.map spEvents).map eE ++ (a :: suf).map eE).set pre.length x = (pre.map spEvents).map eE ++ x :: suf.map eE := by intro x; simp [List.set_append]
    have ih := l_spoilEvents i k xs hx q Q suf (pre ++ [a]) kk (by simp [hxs]) (by simpa using hk)
    simp only [append_len1, List.map_append, List.map_cons, List.map_nil, List.append_assoc, List.cons_append, List.nil_append, eE, spEvents] at ih
    simp only [eE, List.map_cons] at hg hset ⊢
    rw [un_c (c49_1.eq_1)]
    simp (config := { contextual := true, dsimp := false, implicitDefEqProofs := false, maxSteps := 5000000 }) only [h2, h3, h4, hg, hset, gLs, go_sem, Nat.reduceEqDiff, Nat.reduceAdd, Nat.reduceLeDiff, Nat.reduceMul, Nat.reduceLT, Nat.reduceBEq, Int.reduceLT, Int.reduceLE, Int.reduceToNat, Int.reduceAdd, Int.reduceSub, Int.reduceEq, Int.reduceNeg, ↓reduceIte]
    exact ih
theorem s_spoilEvents (i : Nat) (xs : List TEvent) (hx : xs.length ≤ BB) : pureOf (Lv ctx (i + 1)) 49 [.own 4 (xs.map eE)] = some (.tup []) := by
  refine sp_of rfl (xs.length + 1) (by rfl) ?_
  delta c49
  have hl := fun q Q => l_spoilEvents i (xs.length + 1) xs hx q Q xs [] xs.length rfl (by omega)
  simp only [List.length_nil, Int.natCast_zero, List.map_nil, List.nil_append] at hl
  simp (config := { contextual := true, dsimp := false, implicitDefEqProofs := false, maxSteps := 5000000 }) only [gLs, go_sem, Nat.reduceEqDiff, Nat.reduceAdd, Nat.reduceLeDiff, Nat.reduceMul, Nat.reduceLT, Nat.reduceBEq, Int.reduceLT, Int.reduceLE, Int.reduceToNat, Int.reduceAdd, Int.reduceSub, Int.reduceEq, Int.reduceNeg, ↓reduceIte]
  refine Eq.mpr (hl _ _) ?_
  simp (config := { contextual := true, dsimp := false, implicitDefEqProofs := false, maxSteps := 5000000 }) only [go_sem, Nat.reduceEqDiff, Nat.reduceAdd, Nat.reduceLeDiff, Nat.reduceMul, Nat.reduceLT, Nat.reduceBEq, Int.reduceLT, Int.reduceLE, Int.reduceToNat, Int.reduceAdd, Int.reduceSub, Int.reduceEq, Int.reduceNeg, ↓reduceIte]


theorem s_spoilArena (i : Nat) (a : A4 (List TWord)) (h0 : a.a0.length ≤ BB) (h1 : a.a1.length ≤ BB) (h2 : a.a2.length ≤ BB) (h3 : a.a3.length ≤ BB) : pureOf (Lv ctx (i + 2)) 47 [.agg [oWs a.a0, oWs a.a1, oWs a.a2, oWs a.a3]] = some (.tup []) := by
  have e0 := s_spoilWords i a.a0 h0
  have e1 := s_spoilWords i a.a1 h1
  have e2 := s_spoilWords i a.a2 h2
  have e3 := s_spoilWords i a.a3 h3
  refine sp_of rfl 5 (by rfl) ?_
  delta c47
  simp (config := { contextual := true, dsimp := false, implicitDefEqProofs := false, maxSteps := 5000000 }) only [gLs, ↓un_c (c47_1.eq_1), e0, e1, e2, e3, go_sem, Nat.reduceEqDiff, Nat.reduceAdd, Nat.reduceLeDiff, Nat.reduceMul, Nat.reduceLT, Nat.reduceBEq, Int.reduceLT, Int.reduceLE, Int.reduceToNat, Int.reduceAdd, Int.reduceSub, Int.reduceEq, Int.reduceNeg, ↓reduceIte]
theorem s_spoilSession (i : Nat) (s : TSess) (hs : SmS s) : pureOf (Lv ctx (i + 2)) 48 [oS s] = some (.tup []) := by
  have e0 := s_spoilInsts i s.prog hs.p
  have e1 := s_spoilReads i s.reads hs.r
  have e2 := s_spoilWrites i s.writes hs.w
  simp only [oS]
  refine sp_of rfl 0 (by rfl) ?_
  delta c48
  simp (config := { contextual := true, dsimp := false, implicitDefEqProofs := false, maxSteps := 5000000 }) only [e0, e1, e2, go_sem, Nat.reduceEqDiff, Nat.reduceAdd, Nat.reduceLeDiff, Nat.reduceMul, Nat.reduceLT, Nat.reduceBEq, Int.reduceLT, Int.reduceLE, Int.reduceToNat, Int.reduceAdd, Int.reduceSub, Int.reduceEq, Int.reduceNeg, ↓reduceIte]
def deadS (s : TSess) : V := .agg [iV (xorI s.id 90), iV s.label, iV s.clear, .dead, iV s.step, iV s.pc, iV s.regs.a0, iV s.regs.a1, iV s.regs.a2, iV s.regs.a3, .dead, .dead, iV s.at_, iV s.stamp, iV s.tries, iV s.result, iV s.told]
theorem cl_dead (thr d : Nat) : close thr (d + 1) .dead = .ret (.dead, []) := (rfl)
theorem am_dead (thr d : Nat) (l : List TSess) : amMap (close thr (d + 2)) (l.map deadS) = .ret ((l.map deadS).map vn) := am_cl _ _ _ (fun x => by simp only [deadS, cl_agg, am_cons, am_nil, cl_lit, cl_dead, bind_ret, List.map_cons, List.map_nil, List.flatten_cons, List.flatten_nil, List.append_nil, List.nil_append]) l
theorem oC_dead (n : Nat) (r : List V) : openCells n (.dead :: r) = (.dead :: (openCells n r).1, (openCells n r).2) := rfl
attribute [go_sem] cl_dead am_dead
abbrev hS (m : TMach) (els : List V) (d : Bool) : Hp :=
  pO (pO (pO (pO (pO (pO (pO emptyHp 0 none) 1 none) 2 none) 3 none) 4 (some ⟨17, els, d⟩)) 5 (some ⟨4, m.trace.map eE, false⟩)) 6 (some ⟨11, [.agg [.sl 0, .sl 1, .sl 2, .sl 3, iV m.clocks.a0, iV m.clocks.a1, iV m.clocks.a2, iV m.clocks.a3, iV m.ceil, .sl 4, .sl 5]], true⟩)
theorem l_spoilM (i k : Nat) (m : TMach) (hm : SmM m) (q : Out → St → Option Ans) (Q : V → Hp → Nat → Prop) : ∀ (suf pre : List TSess) (kk : Nat) (d : Bool), m.sess = pre ++ suf → suf.length < kk + 1 →
    Fin (evC ctx (Lv ctx (i + 2)) (pureOf (Lv ctx (i + 2))) k c21_1 ⟨ofLive [1, 2] [.ptr 6 0 0, iV pre.length], hS m (pre.map deadS ++ suf.map oS) d, 7⟩ (restK [1, 2] fun o s => thenK (evLoop 7 [1, 2] (fun s q => evC ctx (Lv ctx (i + 2)) (pureOf (Lv ctx (i + 2))) k c21_1 s (restK [1, 2] q)) q kk) q o s)) Q =
    Fin (q (.exit 0) ⟨ofLive [1] [.ptr 6 0 0], hS m (m.sess.map deadS) (if suf = [] then d else true), 7⟩) Q
  | [], pre, kk, d, hxs, hk => by
    have h1 : decide ((pre.length : Int) < (pre.length : Int)) = false := by simp
    have h2 : m.sess = pre := by simp [hxs]
    rw [un_c (c21_1.eq_1), if_pos rfl]
    simp only [List.map_nil, List.append_nil]
    simp (config := { contextual := true, dsimp := false, implicitDefEqProofs := false, maxSteps := 5000000 }) only [h1, List.length_map, go_sem, Nat.reduceEqDiff, Nat.reduceAdd, Nat.reduceLeDiff, Nat.reduceMul, Nat.reduceLT, Nat.reduceBEq, Int.reduceLT, Int.reduceLE, Int.reduceToNat, Int.reduceAdd, Int.reduceSub, Int.reduceEq, Int.reduceNeg, ↓reduceIte]
    rw [h2]
  | a :: suf, pre, kk, d, hxs, hk => by
    obtain ⟨kk, rfl⟩ : ∃ m, kk = m + 1 := ⟨kk - 1, by simp at hk; omega⟩
    have h2 : ((pre.length : Int) < ((pre.length + (suf.length + 1) : Nat) : Int)) = True := by simp; omega
    have h3 : (0 ≤ (pre.length : Int)) = True := by simp
    have h4 := wrN pre.length (by have := hm.ss; rw [hxs] at this; simp at this; omega)
    have hg : (pre.map deadS ++ (a :: suf).map oS)[pre.length]? = some (oS a) := by simp
    have hset : ∀ x, (pre.map deadS ++ (a :: suf).map oS).set pre.length x = pre.map deadS ++ x :: suf.map oS := by intro x; simp [List.set_append]
    have hg' : ∀ x, (pre.map deadS ++ x :: suf.map oS)[pre.length]? = some x := by intro x; simp
    have hset' : ∀ x y, (pre.map deadS ++ x :: suf.map oS).set pre.length y = pre.map deadS ++ y :: suf.map oS := by intro x y; simp [List.set_append]
    have hs := s_spoilSession i a (hm.s a (by simp [hxs]))
    have ih := l_spoilM i k m hm q Q suf (pre ++ [a]) kk true (by simp [hxs]) (by simpa using hk)
    have hif : (if a :: suf = [] then d else true) = true := by simp
    simp only [append_len1, List.map_append, List.map_cons, List.map_nil, List.append_assoc, List.cons_append, List.nil_append, deadS, ite_self] at ih
    simp only [oS, List.map_cons] at hs hg hset ⊢
    rw [un_c (c21_1.eq_1), hif]
    cases d <;> simp (config := { contextual := true, dsimp := false, implicitDefEqProofs := false, maxSteps := 5000000 }) only [h2, h3, h4, hg, hset, hg', hset', hs, gLs, go_sem, Nat.reduceEqDiff, Nat.reduceAdd, Nat.reduceLeDiff, Nat.reduceMul, Nat.reduceLT, Nat.reduceBEq, Int.reduceLT, Int.reduceLE, Int.reduceToNat, Int.reduceAdd, Int.reduceSub, Int.reduceEq, Int.reduceNeg, ↓reduceIte] <;> exact ih
theorem s_spoilM (i : Nat) (m : TMach) (hm : SmM m) : pureOf (Lv ctx (i + 3)) 21 [oM m] = some (.tup []) := by
  have e0 := s_spoilArena i m.words hm.w0 hm.w1 hm.w2 hm.w3
  have e1 := s_spoilEvents (i + 1) m.trace hm.tr
  refine sp_of rfl (m.sess.length + 1) (by rfl) ?_
  delta c21
  have hl := fun q Q d => l_spoilM i (m.sess.length + 1) m hm q Q m.sess [] m.sess.length d rfl (by omega)
  simp only [List.length_nil, Int.natCast_zero, List.map_nil, List.nil_append] at hl
  simp (config := { contextual := true, dsimp := false, implicitDefEqProofs := false, maxSteps := 5000000 }) only [gLs, e0, go_sem, Nat.reduceEqDiff, Nat.reduceAdd, Nat.reduceLeDiff, Nat.reduceMul, Nat.reduceLT, Nat.reduceBEq, Int.reduceLT, Int.reduceLE, Int.reduceToNat, Int.reduceAdd, Int.reduceSub, Int.reduceEq, Int.reduceNeg, ↓reduceIte]
  refine Eq.mpr (hl _ _ false) ?_
  generalize (if m.sess = [] then false else true) = dd
  cases dd <;> simp (config := { contextual := true, dsimp := false, implicitDefEqProofs := false, maxSteps := 5000000 }) only [e1, go_sem, Nat.reduceEqDiff, Nat.reduceAdd, Nat.reduceLeDiff, Nat.reduceMul, Nat.reduceLT, Nat.reduceBEq, Int.reduceLT, Int.reduceLE, Int.reduceToNat, Int.reduceAdd, Int.reduceSub, Int.reduceEq, Int.reduceNeg, ↓reduceIte]
end Ve

