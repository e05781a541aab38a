/- Copies: the reference's, the statements'. -/
import Derived.Test.YtapgmjgledahiaaGreatS15
set_option linter.all false
set_option linter.unusedSectionVars false
namespace Ve
open Go Ve.Ab
set_option maxHeartbeats 16000000
set_option maxRecDepth 10000
attribute [go_sem] List.replicate List.length_append Nat.zero_add List.length_cons


@[go_sem] theorem r_arenaCopy (i : Nat) (p : Bool) (w0 w1 w2 w3 : List TWord) (h0 : (w0.length : Int) * 24 ≤ 140737488355328) (h1 : (w1.length : Int) * 24 ≤ 140737488355328) (h2 : (w2.length : Int) * 24 ≤ 140737488355328) (h3 : (w3.length : Int) * 24 ≤ 140737488355328) : pureOf (Lv ctx (i + 1)) 80 [.agg [eWs p w0, eWs p w1, eWs p w2, eWs p w3]] = some (.agg [oWs w0, oWs w1, oWs w2, oWs w3]) := by
  have e0 : ((w0.length : Int) * 24 ≤ 140737488355328) = True := by simpa using h0
  have e1 : ((w1.length : Int) * 24 ≤ 140737488355328) = True := by simpa using h1
  have e2 : ((w2.length : Int) * 24 ≤ 140737488355328) = True := by simpa using h2
  have e3 : ((w3.length : Int) * 24 ≤ 140737488355328) = True := by simpa using h3
  refine sp_of rfl 5 (by rfl) ?_
  delta c80
  cases p <;> simp +contextual -dsimp -implicitDefEqProofs (maxSteps := 5000000) only [gLs, ↓un_c (c80_1.eq_1), e0, e1, e2, e3, go_sem, simprocAttr]


@[go_sem] theorem w_arenaCopy (i : Nat) (p : Bool) (w0 w1 w2 w3 : List TWord) (h0 : (w0.length : Int) * 24 ≤ 140737488355328) (h1 : (w1.length : Int) * 24 ≤ 140737488355328) (h2 : (w2.length : Int) * 24 ≤ 140737488355328) (h3 : (w3.length : Int) * 24 ≤ 140737488355328) : pureOf (Lv ctx (i + 1)) 35 [.agg [eWs p w0, eWs p w1, eWs p w2, eWs p w3]] = some (.agg [oWs w0, oWs w1, oWs w2, oWs w3]) := by
  have e0 : ((w0.length : Int) * 24 ≤ 140737488355328) = True := by simpa using h0
  have e1 : ((w1.length : Int) * 24 ≤ 140737488355328) = True := by simpa using h1
  have e2 : ((w2.length : Int) * 24 ≤ 140737488355328) = True := by simpa using h2
  have e3 : ((w3.length : Int) * 24 ≤ 140737488355328) = True := by simpa using h3
  refine sp_of rfl 5 (by rfl) ?_
  delta c35
  cases p <;> simp +contextual -dsimp -implicitDefEqProofs (maxSteps := 5000000) only [gLs, ↓un_c (c35_1.eq_1), e0, e1, e2, e3, go_sem, simprocAttr]


@[go_sem] theorem r_session (i : Nat) (pf : Bool) (s : TSess) (hs : SmS s) : pureOf (Lv ctx (i + 1)) 81 [eS pf s] = some (oS s) := by
  have h1 : ((s.prog.length : Int) * 32 ≤ 140737488355328) = True := by simpa using hs.bp
  have h2 : ((s.reads.length : Int) * 24 ≤ 140737488355328) = True := by simpa using hs.br
  have h3 : ((s.writes.length : Int) * 24 ≤ 140737488355328) = True := by simpa using hs.bw
  simp only [eS]
  refine sp_of rfl 0 (by rfl) ?_
  delta c81
  cases pf <;> simp +contextual -dsimp -implicitDefEqProofs (maxSteps := 5000000) only [h1, h2, h3, go_sem, simprocAttr]


@[go_sem] theorem w_session (i : Nat) (pf : Bool) (s : TSess) (hs : SmS s) : pureOf (Lv ctx (i + 1)) 36 [eS pf s] = some (oS s) := by
  have h1 : ((s.prog.length : Int) * 32 ≤ 140737488355328) = True := by simpa using hs.bp
  have h2 : ((s.reads.length : Int) * 24 ≤ 140737488355328) = True := by simpa using hs.br
  have h3 : ((s.writes.length : Int) * 24 ≤ 140737488355328) = True := by simpa using hs.bw
  simp only [eS]
  refine sp_of rfl 0 (by rfl) ?_
  delta c36
  cases pf <;> simp +contextual -dsimp -implicitDefEqProofs (maxSteps := 5000000) only [h1, h2, h3, go_sem, simprocAttr]


abbrev hR (pf d : Bool) (m : TMach) (els : List V) : Hp :=
  pO (pO (pO (pO (pO (pO emptyHp 0 (some ⟨11, [zM], false⟩)) 1 (some ⟨11, [.agg [.sl 2, .sl 3, .sl 4, .sl 5, iV m.clocks.a0, iV m.clocks.a1, iV m.clocks.a2, iV m.clocks.a3, iV m.ceil, .own 17 els, eEs pf m.trace]], d⟩))
    2 (some ⟨3, m.words.a0.map eW, false⟩)) 3 (some ⟨3, m.words.a1.map eW, false⟩)) 4 (some ⟨3, m.words.a2.map eW, false⟩)) 5 (some ⟨3, m.words.a3.map eW, false⟩)


theorem lr_copy (i k : Nat) (pf : Bool) (m : TMach) (hm : SmM m) (q : Out → St → Option Ans) (Q : V → Hp → Nat → Prop) : ∀ (suf pre : List TSess) (kk : Nat), m.sess = pre ++ suf → suf.length < kk + 1 →
    Fin (evC ctx (Lv ctx (i + 1)) (pureOf (Lv ctx (i + 1))) k c45_1 ⟨ofLive [1, 2, 3, 4] [.ip pf (cM pf m) 0, .ptr 0 0 0, .ptr 1 0 0, iV pre.length], hR pf true m (pre.map oS), 6⟩
      (restK [1, 2, 3, 4] fun o s => thenK (evLoop 6 [1, 2, 3, 4] (fun s q => evC ctx (Lv ctx (i + 1)) (pureOf (Lv ctx (i + 1))) k c45_1 s (restK [1, 2, 3, 4] q)) q kk) q o s)) Q =
    Fin (q (.exit 0) ⟨ofLive [1, 2, 3] [.ip pf (cM pf m) 0, .ptr 0 0 0, .ptr 1 0 0], hR pf true m (m.sess.map oS), 6⟩) Q
  | [], pre, kk, hxs, hk => by
    have h1 : decide ((pre.length : Int) < m.sess.length) = false := by simp [hxs]
    have h2 : m.sess = pre := by simp [hxs]
    rw [un_c (c45_1.eq_1)]
    simp +contextual -dsimp -implicitDefEqProofs (maxSteps := 5000000) only [h1, go_sem, simprocAttr]
    rw [h2]
  | a :: suf, pre, kk, hxs, hk => by
    obtain ⟨kk, rfl⟩ : ∃ m, kk = m + 1 := ⟨kk - 1, by simp at hk; omega⟩
    have hl : pre.length < m.sess.length := by simp [hxs]
    have h2 : ((pre.length : Int) < m.sess.length) = True := by simpa using hl
    have h3 : (0 ≤ (pre.length : Int)) = True := by simp
    have h4 := wrN pre.length (by have := hm.ss; omega)
    have hg : m.sess[pre.length]? = some a := by simp [hxs]
    have h5 : (((pre.length + 1 : Nat) : Int) * 184 ≤ 140737488355328) = True := by
      have := hm.bs
      simp only [eq_iff_iff, iff_true]
      have : pre.length + 1 ≤ m.sess.length := hl
      omega
    have hs := r_session (i + 0) pf a (hm.s a (by simp [hxs]))
    have ih := lr_copy i k pf m hm q Q suf (pre ++ [a]) kk (by simp [hxs]) (by simpa using hk)
    simp only [append_len1, List.map_append, List.map_cons, List.map_nil, oS] at ih
    simp only [Nat.add_assoc, Nat.reduceAdd, eS] at hs
    rw [un_c (c45_1.eq_1)]
    cases pf <;> simp +contextual -dsimp -implicitDefEqProofs (maxSteps := 5000000) only [h2, h3, h4, h5, hg, hs, gLs, go_sem, simprocAttr] <;> exact ih
theorem r_copy (i : Nat) (pf : Bool) (m : TMach) (hm : SmM m) : pureOf (Lv ctx (i + 2)) 45 [eM pf m] = some (oM m) := by
  have b0 := hm.b0
  have b1 := hm.b1
  have b2 := hm.b2
  have b3 := hm.b3
  have e5 : ((m.trace.length : Int) * 32 ≤ 140737488355328) = True := by simpa using hm.bt
  refine sp_of rfl (m.sess.length + 1) (by rfl) ?_
  delta c45
  have hl := fun q Q => lr_copy i (m.sess.length + 1) pf m hm q Q m.sess [] m.sess.length rfl (by omega)
  simp only [List.length_nil, Int.natCast_zero, List.map_nil] at hl
  cases pf
  · simp +contextual -dsimp -implicitDefEqProofs (maxSteps := 5000000) only [b0, b1, b2, b3, e5, gLs, go_sem, simprocAttr]
    refine Eq.mpr (hl _ _) ?_
    simp +contextual -dsimp -implicitDefEqProofs (maxSteps := 5000000) only [e5, go_sem, simprocAttr]
  · simp +contextual -dsimp -implicitDefEqProofs (maxSteps := 5000000) only [b0, b1, b2, b3, e5, gLs, go_sem, simprocAttr]
    refine Eq.mpr (hl _ _) ?_
    simp +contextual -dsimp -implicitDefEqProofs (maxSteps := 5000000) only [e5, go_sem, simprocAttr]


theorem lw_copy (i k : Nat) (pf : Bool) (m : TMach) (hm : SmM m) (q : Out → St → Option Ans) (Q : V → Hp → Nat → Prop) : ∀ (suf pre : List TSess) (kk : Nat), m.sess = pre ++ suf → suf.length < kk + 1 →
    Fin (evC ctx (Lv ctx (i + 1)) (pureOf (Lv ctx (i + 1))) k c15_1 ⟨ofLive [1, 2, 3, 4] [.ip pf (cM pf m) 0, .ptr 0 0 0, .ptr 1 0 0, iV pre.length], hR pf true m (pre.map oS), 6⟩
      (restK [1, 2, 3, 4] fun o s => thenK (evLoop 6 [1, 2, 3, 4] (fun s q => evC ctx (Lv ctx (i + 1)) (pureOf (Lv ctx (i + 1))) k c15_1 s (restK [1, 2, 3, 4] q)) q kk) q o s)) Q =
    Fin (q (.exit 0) ⟨ofLive [1, 2, 3] [.ip pf (cM pf m) 0, .ptr 0 0 0, .ptr 1 0 0], hR pf true m (m.sess.map oS), 6⟩) Q
  | [], pre, kk, hxs, hk => by
    have h1 : decide ((pre.length : Int) < m.sess.length) = false := by simp [hxs]
    have h2 : m.sess = pre := by simp [hxs]
    rw [un_c (c15_1.eq_1)]
    simp +contextual -dsimp -implicitDefEqProofs (maxSteps := 5000000) only [h1, go_sem, simprocAttr]
    rw [h2]
  | a :: suf, pre, kk, hxs, hk => by
    obtain ⟨kk, rfl⟩ : ∃ m, kk = m + 1 := ⟨kk - 1, by simp at hk; omega⟩
    have hl : pre.length < m.sess.length := by simp [hxs]
    have h2 : ((pre.length : Int) < m.sess.length) = True := by simpa using hl
    have h3 : (0 ≤ (pre.length : Int)) = True := by simp
    have h4 := wrN pre.length (by have := hm.ss; omega)
    have hg : m.sess[pre.length]? = some a := by simp [hxs]
    have h5 : (((pre.length + 1 : Nat) : Int) * 184 ≤ 140737488355328) = True := by
      have := hm.bs
      simp only [eq_iff_iff, iff_true]
      have : pre.length + 1 ≤ m.sess.length := hl
      omega
    have hs := w_session (i + 0) pf a (hm.s a (by simp [hxs]))
    have ih := lw_copy i k pf m hm q Q suf (pre ++ [a]) kk (by simp [hxs]) (by simpa using hk)
    simp only [append_len1, List.map_append, List.map_cons, List.map_nil, oS] at ih
    simp only [Nat.add_assoc, Nat.reduceAdd, eS] at hs
    rw [un_c (c15_1.eq_1)]
    cases pf <;> simp +contextual -dsimp -implicitDefEqProofs (maxSteps := 5000000) only [h2, h3, h4, h5, hg, hs, gLs, go_sem, simprocAttr] <;> exact ih
theorem w_copy (i : Nat) (pf : Bool) (m : TMach) (hm : SmM m) : pureOf (Lv ctx (i + 2)) 15 [eM pf m] = some (oM m) := by
  have b0 := hm.b0
  have b1 := hm.b1
  have b2 := hm.b2
  have b3 := hm.b3
  have e5 : ((m.trace.length : Int) * 32 ≤ 140737488355328) = True := by simpa using hm.bt
  refine sp_of rfl (m.sess.length + 1) (by rfl) ?_
  delta c15
  have hl := fun q Q => lw_copy i (m.sess.length + 1) pf m hm q Q m.sess [] m.sess.length rfl (by omega)
  simp only [List.length_nil, Int.natCast_zero, List.map_nil] at hl
  cases pf
  · simp +contextual -dsimp -implicitDefEqProofs (maxSteps := 5000000) only [b0, b1, b2, b3, e5, gLs, go_sem, simprocAttr]
    refine Eq.mpr (hl _ _) ?_
    simp +contextual -dsimp -implicitDefEqProofs (maxSteps := 5000000) only [e5, go_sem, simprocAttr]
  · simp +contextual -dsimp -implicitDefEqProofs (maxSteps := 5000000) only [b0, b1, b2, b3, e5, gLs, go_sem, simprocAttr]
    refine Eq.mpr (hl _ _) ?_
    simp +contextual -dsimp -implicitDefEqProofs (maxSteps := 5000000) only [e5, go_sem, simprocAttr]

end Ve
