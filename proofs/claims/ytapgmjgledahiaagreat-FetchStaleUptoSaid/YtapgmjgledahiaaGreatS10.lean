/- Undoing: the program's. -/
import Derived.Test.YtapgmjgledahiaaGreatVsU
set_option linter.all false
set_option linter.unusedSectionVars false
namespace Ve
open Go Ve.Ab
set_option maxHeartbeats 16000000
set_option maxRecDepth 10000
theorem s_mthere (i : Nat) (p pf : Bool) (m : TMach) (at_ : Int) (hm : SmM m) : pureOf (Lv ctx (i + 20)) 71 [.ip p (cM pf m) 0, iV at_] = some (bV (hereM m at_)) := by
  have h1 := s_may i pf m hm
  refine sp_of rfl 0 (by rfl) ?_
  delta c71
  simp +contextual -dsimp -implicitDefEqProofs (maxSteps := 5000000) only [h1, hereM, go_sem, simprocAttr]
abbrev hF (m : TMach) (a1 a2 a3 a4 : List V) : Hp :=
  pO (pO (pO (pO (pO (pO (pO (pO emptyHp 0 (some ⟨11, [zM], false⟩)) 1 (some ⟨3, a1, false⟩)) 2 (some ⟨3, a2, false⟩)) 3 (some ⟨3, a3, false⟩)) 4 (some ⟨3, a4, false⟩)) 5 (some ⟨17, m.sess.map oS, false⟩)) 6 (some ⟨4, m.trace.map eE, false⟩))
    7 (some ⟨11, [.agg [.sl 1, .sl 2, .sl 3, .sl 4, iV m.clocks.a0, iV m.clocks.a1, iV m.clocks.a2, iV m.clocks.a3, iV m.ceil, .sl 5, .sl 6]], true⟩)


theorem l_free0 (i k : Nat) (m : TMach) (hm : SmM m) (id c : Int) (hc : IntKind.wrap .i64 (id + 1) = c) (q : Out → St → Option Ans) (Q : V → Hp → Nat → Prop) : ∀ (suf pre : List TWord) (kk : Nat), m.words.a0 = pre ++ suf → suf.length < kk + 1 →
    Fin (evC ctx (Lv ctx i) (pureOf (Lv ctx i)) k c123_1 ⟨ofLive [0, 1, 4, 5] [.ptr 7 0 0, iV id, iV 0, iV pre.length], hF m ((pre.map (freeW c)).map eW ++ suf.map eW) (m.words.a1.map eW) (m.words.a2.map eW) (m.words.a3.map eW), 8⟩ (restK [0, 1, 4, 5] fun o s => thenK (evLoop 8 [0, 1, 4, 5] (fun s q => evC ctx (Lv ctx i) (pureOf (Lv ctx i)) k c123_1 s (restK [0, 1, 4, 5] q)) q kk) q o s)) Q = Fin (q (.exit 0) ⟨ofLive [0, 1, 4] [.ptr 7 0 0, iV id, iV 0], hF m ((m.words.a0.map (freeW c)).map eW) (m.words.a1.map eW) (m.words.a2.map eW) (m.words.a3.map eW), 8⟩) Q
  | [], pre, kk, hxs, hk => by
    have h1 : decide ((pre.length : Int) < (pre.length : Int)) = false := by simp
    have h2 : m.words.a0 = pre := by simp [hxs]
    rw [un_c (c123_1.eq_1)]
    simp only [List.map_nil, List.append_nil]
    rw [h2]
    simp +contextual -dsimp -implicitDefEqProofs (maxSteps := 5000000) only [h1, List.length_map, go_sem, simprocAttr]
    all_goals (try rfl)
  | a :: suf, pre, kk, hxs, hk => by
    obtain ⟨kk, rfl⟩ : ∃ m, kk = m + 1 := ⟨kk - 1, by simp at hk; omega⟩
    have hl : pre.length < ((pre.map (freeW c)).map eW ++ (a :: suf).map eW).length := by simp
    have h2 : ((pre.length : Int) < ((((pre.map (freeW c)).map eW ++ (a :: suf).map eW).length : Nat) : Int)) = True := by simp; omega
    have h3 : (0 ≤ (pre.length : Int)) = True := by simp
    have h4 := wrN pre.length (by have := hm.w0; rw [hxs] at this; simp at this; omega)
    have hg : ((pre.map (freeW c)).map eW ++ (a :: suf).map eW)[pre.length]? = some (eW a) := by simp
    have hset : ∀ x, ((pre.map (freeW c)).map eW ++ (a :: suf).map eW).set pre.length x = (pre.map (freeW c)).map eW ++ x :: suf.map eW := by intro x; simp [List.set_append]
    have ih := l_free0 i k m hm id c hc q Q suf (pre ++ [a]) kk (by simp [hxs]) (by simpa using hk)
    simp only [append_len1, List.map_append, List.map_cons, List.map_nil, List.append_assoc, List.cons_append, List.nil_append] at ih
    by_cases hlk : a.lock = c
    · have h5 : decide (a.lock = c) = true := by simpa using hlk
      simp only [freeW, hlk, if_true, eW] at ih
      simp only [eW, List.map_cons, freeW] at h2 hg hset ⊢
      rw [un_c (c123_1.eq_1)]
      simp +contextual -dsimp -implicitDefEqProofs (maxSteps := 5000000) only [h2, h3, h4, hg, hset, hc, h5, gLs, go_sem, simprocAttr]
      exact ih
    · have h5 : decide (a.lock = c) = false := by simpa using hlk
      simp only [freeW, hlk, if_false, eW] at ih
      simp only [eW, List.map_cons, freeW] at h2 hg hset ⊢
      rw [un_c (c123_1.eq_1)]
      simp +contextual -dsimp -implicitDefEqProofs (maxSteps := 5000000) only [h2, h3, h4, hg, hset, hc, h5, gLs, go_sem, simprocAttr]
      exact ih


theorem l_free1 (i k : Nat) (m : TMach) (hm : SmM m) (id c : Int) (hc : IntKind.wrap .i64 (id + 1) = c) (q : Out → St → Option Ans) (Q : V → Hp → Nat → Prop) : ∀ (suf pre : List TWord) (kk : Nat), m.words.a1 = pre ++ suf → suf.length < kk + 1 →
    Fin (evC ctx (Lv ctx i) (pureOf (Lv ctx i)) k c123_1 ⟨ofLive [0, 1, 4, 5] [.ptr 7 0 0, iV id, iV 1, iV pre.length], hF m ((m.words.a0.map (freeW c)).map eW) ((pre.map (freeW c)).map eW ++ suf.map eW) (m.words.a2.map eW) (m.words.a3.map eW), 8⟩ (restK [0, 1, 4, 5] fun o s => thenK (evLoop 8 [0, 1, 4, 5] (fun s q => evC ctx (Lv ctx i) (pureOf (Lv ctx i)) k c123_1 s (restK [0, 1, 4, 5] q)) q kk) q o s)) Q = Fin (q (.exit 0) ⟨ofLive [0, 1, 4] [.ptr 7 0 0, iV id, iV 1], hF m ((m.words.a0.map (freeW c)).map eW) ((m.words.a1.map (freeW c)).map eW) (m.words.a2.map eW) (m.words.a3.map eW), 8⟩) Q
  | [], pre, kk, hxs, hk => by
    have h1 : decide ((pre.length : Int) < (pre.length : Int)) = false := by simp
    have h2 : m.words.a1 = pre := by simp [hxs]
    rw [un_c (c123_1.eq_1)]
    simp only [List.map_nil, List.append_nil]
    rw [h2]
    simp +contextual -dsimp -implicitDefEqProofs (maxSteps := 5000000) only [h1, List.length_map, go_sem, simprocAttr]
    all_goals (try rfl)
  | a :: suf, pre, kk, hxs, hk => by
    obtain ⟨kk, rfl⟩ : ∃ m, kk = m + 1 := ⟨kk - 1, by simp at hk; omega⟩
    have hl : pre.length < ((pre.map (freeW c)).map eW ++ (a :: suf).map eW).length := by simp
    have h2 : ((pre.length : Int) < ((((pre.map (freeW c)).map eW ++ (a :: suf).map eW).length : Nat) : Int)) = True := by simp; omega
    have h3 : (0 ≤ (pre.length : Int)) = True := by simp
    have h4 := wrN pre.length (by have := hm.w1; rw [hxs] at this; simp at this; omega)
    have hg : ((pre.map (freeW c)).map eW ++ (a :: suf).map eW)[pre.length]? = some (eW a) := by simp
    have hset : ∀ x, ((pre.map (freeW c)).map eW ++ (a :: suf).map eW).set pre.length x = (pre.map (freeW c)).map eW ++ x :: suf.map eW := by intro x; simp [List.set_append]
    have ih := l_free1 i k m hm id c hc q Q suf (pre ++ [a]) kk (by simp [hxs]) (by simpa using hk)
    simp only [append_len1, List.map_append, List.map_cons, List.map_nil, List.append_assoc, List.cons_append, List.nil_append] at ih
    by_cases hlk : a.lock = c
    · have h5 : decide (a.lock = c) = true := by simpa using hlk
      simp only [freeW, hlk, if_true, eW] at ih
      simp only [eW, List.map_cons, freeW] at h2 hg hset ⊢
      rw [un_c (c123_1.eq_1)]
      simp +contextual -dsimp -implicitDefEqProofs (maxSteps := 5000000) only [h2, h3, h4, hg, hset, hc, h5, gLs, go_sem, simprocAttr]
      exact ih
    · have h5 : decide (a.lock = c) = false := by simpa using hlk
      simp only [freeW, hlk, if_false, eW] at ih
      simp only [eW, List.map_cons, freeW] at h2 hg hset ⊢
      rw [un_c (c123_1.eq_1)]
      simp +contextual -dsimp -implicitDefEqProofs (maxSteps := 5000000) only [h2, h3, h4, hg, hset, hc, h5, gLs, go_sem, simprocAttr]
      exact ih


theorem l_free2 (i k : Nat) (m : TMach) (hm : SmM m) (id c : Int) (hc : IntKind.wrap .i64 (id + 1) = c) (q : Out → St → Option Ans) (Q : V → Hp → Nat → Prop) : ∀ (suf pre : List TWord) (kk : Nat), m.words.a2 = pre ++ suf → suf.length < kk + 1 →
    Fin (evC ctx (Lv ctx i) (pureOf (Lv ctx i)) k c123_1 ⟨ofLive [0, 1, 4, 5] [.ptr 7 0 0, iV id, iV 2, iV pre.length], hF m ((m.words.a0.map (freeW c)).map eW) ((m.words.a1.map (freeW c)).map eW) ((pre.map (freeW c)).map eW ++ suf.map eW) (m.words.a3.map eW), 8⟩ (restK [0, 1, 4, 5] fun o s => thenK (evLoop 8 [0, 1, 4, 5] (fun s q => evC ctx (Lv ctx i) (pureOf (Lv ctx i)) k c123_1 s (restK [0, 1, 4, 5] q)) q kk) q o s)) Q = Fin (q (.exit 0) ⟨ofLive [0, 1, 4] [.ptr 7 0 0, iV id, iV 2], hF m ((m.words.a0.map (freeW c)).map eW) ((m.words.a1.map (freeW c)).map eW) ((m.words.a2.map (freeW c)).map eW) (m.words.a3.map eW), 8⟩) Q
  | [], pre, kk, hxs, hk => by
    have h1 : decide ((pre.length : Int) < (pre.length : Int)) = false := by simp
    have h2 : m.words.a2 = pre := by simp [hxs]
    rw [un_c (c123_1.eq_1)]
    simp only [List.map_nil, List.append_nil]
    rw [h2]
    simp +contextual -dsimp -implicitDefEqProofs (maxSteps := 5000000) only [h1, List.length_map, go_sem, simprocAttr]
    all_goals (try rfl)
  | a :: suf, pre, kk, hxs, hk => by
    obtain ⟨kk, rfl⟩ : ∃ m, kk = m + 1 := ⟨kk - 1, by simp at hk; omega⟩
    have hl : pre.length < ((pre.map (freeW c)).map eW ++ (a :: suf).map eW).length := by simp
    have h2 : ((pre.length : Int) < ((((pre.map (freeW c)).map eW ++ (a :: suf).map eW).length : Nat) : Int)) = True := by simp; omega
    have h3 : (0 ≤ (pre.length : Int)) = True := by simp
    have h4 := wrN pre.length (by have := hm.w2; rw [hxs] at this; simp at this; omega)
    have hg : ((pre.map (freeW c)).map eW ++ (a :: suf).map eW)[pre.length]? = some (eW a) := by simp
    have hset : ∀ x, ((pre.map (freeW c)).map eW ++ (a :: suf).map eW).set pre.length x = (pre.map (freeW c)).map eW ++ x :: suf.map eW := by intro x; simp [List.set_append]
    have ih := l_free2 i k m hm id c hc q Q suf (pre ++ [a]) kk (by simp [hxs]) (by simpa using hk)
    simp only [append_len1, List.map_append, List.map_cons, List.map_nil, List.append_assoc, List.cons_append, List.nil_append] at ih
    by_cases hlk : a.lock = c
    · have h5 : decide (a.lock = c) = true := by simpa using hlk
      simp only [freeW, hlk, if_true, eW] at ih
      simp only [eW, List.map_cons, freeW] at h2 hg hset ⊢
      rw [un_c (c123_1.eq_1)]
      simp +contextual -dsimp -implicitDefEqProofs (maxSteps := 5000000) only [h2, h3, h4, hg, hset, hc, h5, gLs, go_sem, simprocAttr]
      exact ih
    · have h5 : decide (a.lock = c) = false := by simpa using hlk
      simp only [freeW, hlk, if_false, eW] at ih
      simp only [eW, List.map_cons, freeW] at h2 hg hset ⊢
      rw [un_c (c123_1.eq_1)]
      simp +contextual -dsimp -implicitDefEqProofs (maxSteps := 5000000) only [h2, h3, h4, hg, hset, hc, h5, gLs, go_sem, simprocAttr]
      exact ih


theorem l_free3 (i k : Nat) (m : TMach) (hm : SmM m) (id c : Int) (hc : IntKind.wrap .i64 (id + 1) = c) (q : Out → St → Option Ans) (Q : V → Hp → Nat → Prop) : ∀ (suf pre : List TWord) (kk : Nat), m.words.a3 = pre ++ suf → suf.length < kk + 1 →
    Fin (evC ctx (Lv ctx i) (pureOf (Lv ctx i)) k c123_1 ⟨ofLive [0, 1, 4, 5] [.ptr 7 0 0, iV id, iV 3, iV pre.length], hF m ((m.words.a0.map (freeW c)).map eW) ((m.words.a1.map (freeW c)).map eW) ((m.words.a2.map (freeW c)).map eW) ((pre.map (freeW c)).map eW ++ suf.map eW), 8⟩ (restK [0, 1, 4, 5] fun o s => thenK (evLoop 8 [0, 1, 4, 5] (fun s q => evC ctx (Lv ctx i) (pureOf (Lv ctx i)) k c123_1 s (restK [0, 1, 4, 5] q)) q kk) q o s)) Q = Fin (q (.exit 0) ⟨ofLive [0, 1, 4] [.ptr 7 0 0, iV id, iV 3], hF m ((m.words.a0.map (freeW c)).map eW) ((m.words.a1.map (freeW c)).map eW) ((m.words.a2.map (freeW c)).map eW) ((m.words.a3.map (freeW c)).map eW), 8⟩) Q
  | [], pre, kk, hxs, hk => by
    have h1 : decide ((pre.length : Int) < (pre.length : Int)) = false := by simp
    have h2 : m.words.a3 = pre := by simp [hxs]
    rw [un_c (c123_1.eq_1)]
    simp only [List.map_nil, List.append_nil]
    rw [h2]
    simp +contextual -dsimp -implicitDefEqProofs (maxSteps := 5000000) only [h1, List.length_map, go_sem, simprocAttr]
    all_goals (try rfl)
  | a :: suf, pre, kk, hxs, hk => by
    obtain ⟨kk, rfl⟩ : ∃ m, kk = m + 1 := ⟨kk - 1, by simp at hk; omega⟩
    have hl : pre.length < ((pre.map (freeW c)).map eW ++ (a :: suf).map eW).length := by simp
    have h2 : ((pre.length : Int) < ((((pre.map (freeW c)).map eW ++ (a :: suf).map eW).length : Nat) : Int)) = True := by simp; omega
    have h3 : (0 ≤ (pre.length : Int)) = True := by simp
    have h4 := wrN pre.length (by have := hm.w3; rw [hxs] at this; simp at this; omega)
    have hg : ((pre.map (freeW c)).map eW ++ (a :: suf).map eW)[pre.length]? = some (eW a) := by simp
    have hset : ∀ x, ((pre.map (freeW c)).map eW ++ (a :: suf).map eW).set pre.length x = (pre.map (freeW c)).map eW ++ x :: suf.map eW := by intro x; simp [List.set_append]
    have ih := l_free3 i k m hm id c hc q Q suf (pre ++ [a]) kk (by simp [hxs]) (by simpa using hk)
    simp only [append_len1, List.map_append, List.map_cons, List.map_nil, List.append_assoc, List.cons_append, List.nil_append] at ih
    by_cases hlk : a.lock = c
    · have h5 : decide (a.lock = c) = true := by simpa using hlk
      simp only [freeW, hlk, if_true, eW] at ih
      simp only [eW, List.map_cons, freeW] at h2 hg hset ⊢
      rw [un_c (c123_1.eq_1)]
      simp +contextual -dsimp -implicitDefEqProofs (maxSteps := 5000000) only [h2, h3, h4, hg, hset, hc, h5, gLs, go_sem, simprocAttr]
      exact ih
    · have h5 : decide (a.lock = c) = false := by simpa using hlk
      simp only [freeW, hlk, if_false, eW] at ih
      simp only [eW, List.map_cons, freeW] at h2 hg hset ⊢
      rw [un_c (c123_1.eq_1)]
      simp +contextual -dsimp -implicitDefEqProofs (maxSteps := 5000000) only [h2, h3, h4, hg, hset, hc, h5, gLs, go_sem, simprocAttr]
      exact ih


def irRest : IR → IR
  | .seq _ (.seq _ r) => r
  | x => x
theorem irRest_eq (a b r : IR) : irRest (.seq a (.seq b r)) = r := (rfl)
theorem from_free (C : Ctx) (O : Orc) (P : FuncId → List V → Option V) (k : Nat) (s : St) (q : Out → St → Option Ans) (Q : V → Hp → Nat → Prop) : Fin (evFrom C O P k c123_2 0 s q) Q = Fin (evC C O P k (irRest c123_2) s q) Q := (rfl)
theorem gScope_free (thr : Nat) (live : List Nat) (f : Nat → St → (Out → St → Option Ans) → Option Ans) (q : Out → St → Option Ans) (k : Nat) (s : St) (Q : V → Hp → Nat → Prop) : Fin (evScope thr live (hasL c123_2) f q (k + 1) 0 s) Q =
    GN thr live s (fun s => f 0 s (jumpK (fun l s => evScope thr live (hasL c123_2) f q k l (restr live s)) q)) Q ⟨⟩ := (rfl)
theorem gE_scope (C : Ctx) (O : Orc) (P : FuncId → List V → Option V) (k : Nat) (live : List Nat) (b : IR) (s : St) (q : Out → St → Option Ans) (Q : V → Hp → Nat → Prop) : Fin (evC C O P k (.scope live b) s q) Q =
    Fin (evC C O P k b s (jumpK (fun l s' => evScope s.n live (hasL b) (fun l s q => evFrom C O P k b l s q) q k l (restr live s')) q)) Q := (rfl)
abbrev hF0 (m : TMach) : Hp := hF m (m.words.a0.map eW) (m.words.a1.map eW) (m.words.a2.map eW) (m.words.a3.map eW)
abbrev hF4 (c : Int) (m : TMach) : Hp := hF m ((m.words.a0.map (freeW c)).map eW) ((m.words.a1.map (freeW c)).map eW) ((m.words.a2.map (freeW c)).map eW) ((m.words.a3.map (freeW c)).map eW)
theorem s_free (i : Nat) (m : TMach) (hm : SmM m) (id c : Int) (hc : IntKind.wrap .i64 (id + 1) = c) : Lv ctx (i + 1) 123 [.ptr 7 0 0, iV id] (hF0 m) 8 = some (.tup [], hF4 c m, 8) := by
  refine inl_of rfl (m.words.a0.length + m.words.a1.length + m.words.a2.length + m.words.a3.length + 5) ?_
  have h0 := fun q Q => l_free0 i (m.words.a0.length + m.words.a1.length + m.words.a2.length + m.words.a3.length + 5) m hm id c hc q Q m.words.a0 [] (m.words.a0.length + m.words.a1.length + m.words.a2.length + m.words.a3.length + 4) rfl (by omega)
  have h1 := fun q Q => l_free1 i (m.words.a0.length + m.words.a1.length + m.words.a2.length + m.words.a3.length + 5) m hm id c hc q Q m.words.a1 [] (m.words.a0.length + m.words.a1.length + m.words.a2.length + m.words.a3.length + 4) rfl (by omega)
  have h2 := fun q Q => l_free2 i (m.words.a0.length + m.words.a1.length + m.words.a2.length + m.words.a3.length + 5) m hm id c hc q Q m.words.a2 [] (m.words.a0.length + m.words.a1.length + m.words.a2.length + m.words.a3.length + 4) rfl (by omega)
  have h3 := fun q Q => l_free3 i (m.words.a0.length + m.words.a1.length + m.words.a2.length + m.words.a3.length + 5) m hm id c hc q Q m.words.a3 [] (m.words.a0.length + m.words.a1.length + m.words.a2.length + m.words.a3.length + 4) rfl (by omega)
  simp only [List.map_nil, List.nil_append, List.length_nil, cast0] at h0 h1 h2 h3
  delta c123
  simp +contextual -dsimp -implicitDefEqProofs (maxSteps := 5000000) only [↓gE_scope, ↓gScope_free, ↓from_free, irRest_eq, ↓un_c (c123_2.eq_1), ↓un_c (congrArg irRest c123_2.eq_1), gLs, ↓h0, ↓h1, ↓h2, ↓h3, h0, h1, h2, h3, go_sem, simprocAttr]

end Ve
