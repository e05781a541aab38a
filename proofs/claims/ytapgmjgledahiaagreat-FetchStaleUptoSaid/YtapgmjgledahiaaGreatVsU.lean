/- Copies: the program's. -/
import Derived.Test.YtapgmjgledahiaaGreatS7
set_option linter.all false
set_option linter.unusedSectionVars false
namespace Ve
open Go Ve.Ab
set_option maxHeartbeats 16000000
set_option maxRecDepth 10000
@[go_sem] theorem s_session (i : Nat) (pf : Bool) (s : TSess) (hs : SmS s) : pureOf (Lv ctx (i + 2)) 76 [eS pf s] = some (oS s) := by
  have h1 : ((s.prog.length : Int) * 32 ≤ 140737488355328) = True := by simpa using hs.bp
  have h2 : ((s.reads.length : Int) * 24 ≤ 140737488355328) = True := by simpa using hs.br
  have h3 : ((s.writes.length : Int) * 24 ≤ 140737488355328) = True := by simpa using hs.bw
  simp only [eS]
  refine sp_of rfl 0 (by rfl) ?_
  delta c76
  cases pf <;> simp +contextual -dsimp -implicitDefEqProofs (maxSteps := 5000000) only [h1, h2, h3, go_sem, simprocAttr]

@[go_sem] theorem s_arenaCopy (i : Nat) (p : Bool) (w0 w1 w2 w3 : List TWord) (h0 : (w0.length : Int) * 24 ≤ 140737488355328) (h1 : (w1.length : Int) * 24 ≤ 140737488355328) (h2 : (w2.length : Int) * 24 ≤ 140737488355328) (h3 : (w3.length : Int) * 24 ≤ 140737488355328) : pureOf (Lv ctx (i + 2)) 73 [.agg [eWs p w0, eWs p w1, eWs p w2, eWs p w3]] = some (.agg [oWs w0, oWs w1, oWs w2, oWs w3]) := by
  have e0 : ((w0.length : Int) * 24 ≤ 140737488355328) = True := by simpa using h0
  have e1 : ((w1.length : Int) * 24 ≤ 140737488355328) = True := by simpa using h1
  have e2 : ((w2.length : Int) * 24 ≤ 140737488355328) = True := by simpa using h2
  have e3 : ((w3.length : Int) * 24 ≤ 140737488355328) = True := by simpa using h3
  refine sp_of rfl 5 (by rfl) ?_
  delta c73
  cases p <;> simp +contextual -dsimp -implicitDefEqProofs (maxSteps := 5000000) only [gLs, ↓un_c (c73_1.eq_1), e0, e1, e2, e3, go_sem, simprocAttr]
end Ve

/- Copies: the program's machine. -/
namespace Ve
open Go Ve.Ab
set_option maxHeartbeats 16000000
set_option maxRecDepth 10000
abbrev zM : V := .agg [.own 3 [], .own 3 [], .own 3 [], .own 3 [], iV 0, iV 0, iV 0, iV 0, iV 0, .own 17 [], .own 4 []]
abbrev hC (m : TMach) (els : List V) (d6 d7 : Bool) : Hp :=
  pO (pO (pO (pO (pO (pO (pO (pO emptyHp 0 (some ⟨11, [.agg [.sl 2, .sl 3, .sl 4, .sl 5, iV m.clocks.a0, iV m.clocks.a1, iV m.clocks.a2, iV m.clocks.a3, iV m.ceil, .sl 6, .sl 7]], true⟩))
    1 (some ⟨11, [zM], false⟩)) 2 (some ⟨3, m.words.a0.map eW, false⟩)) 3 (some ⟨3, m.words.a1.map eW, false⟩)) 4 (some ⟨3, m.words.a2.map eW, false⟩)) 5 (some ⟨3, m.words.a3.map eW, false⟩))
    6 (some ⟨17, els, d6⟩)) 7 (some ⟨4, m.trace.map eE, d7⟩)
theorem l_mcopy (i k : Nat) (pf : Bool) (m : TMach) (hm : SmM m) (q : Out → St → Option Ans) (Q : V → Hp → Nat → Prop) : ∀ (suf pre : List TSess) (kk : Nat) (d6 : Bool), m.sess = pre ++ suf → suf.length < kk + 1 →
    Fin (evC ctx (Lv ctx (i + 2)) (pureOf (Lv ctx (i + 2))) k c38_1 ⟨ofLive [1, 2, 18, 19, 20] [.ptr 0 0 0, .ptr 1 0 0, .sl 6, iV m.sess.length, iV pre.length], hC m (pre.map oS ++ suf.map (eS pf)) d6 (!pf), 8⟩
      (restK [1, 2, 18, 19, 20] fun o s => thenK (evLoop 8 [1, 2, 18, 19, 20] (fun s q => evC ctx (Lv ctx (i + 2)) (pureOf (Lv ctx (i + 2))) k c38_1 s (restK [1, 2, 18, 19, 20] q)) q kk) q o s)) Q =
    Fin (q (.exit 0) ⟨ofLive [1, 2] [.ptr 0 0 0, .ptr 1 0 0], hC m (m.sess.map oS) (if suf = [] then d6 else true) (!pf), 8⟩) Q
  | [], pre, kk, d6, hxs, hk => by
    have h1 : decide ((pre.length : Int) < m.sess.length) = false := by simp [hxs]
    have h2 : m.sess = pre := by simp [hxs]
    rw [un_c (c38_1.eq_1), if_pos rfl]
    simp +contextual -dsimp -implicitDefEqProofs (maxSteps := 5000000) only [h1, go_sem, simprocAttr]
    rw [h2]
  | a :: suf, pre, kk, d6, hxs, hk => by
    obtain ⟨kk, rfl⟩ : ∃ m, kk = m + 1 := ⟨kk - 1, by simp at hk; omega⟩
    have hl : pre.length < m.sess.length := by simp [hxs]
    have h2 : ((pre.length : Int) < m.sess.length) = True := by simpa using hl
    have h3 : (0 ≤ (pre.length : Int)) = True := by simp
    have h4 := wrN pre.length (by have := hm.ss; omega)
    have hg : (pre.map oS ++ (a :: suf).map (eS pf))[pre.length]? = some (eS pf a) := by simp
    have hlen : (((pre.map oS ++ (a :: suf).map (eS pf)).length : Nat) : Int) = m.sess.length := by simp [hxs]
    have hset : ∀ x, (pre.map oS ++ (a :: suf).map (eS pf)).set pre.length x = pre.map oS ++ x :: suf.map (eS pf) := by intro x; simp [List.set_append]
    have hs := s_session (i + 0) pf a (hm.s a (by simp [hxs]))
    have ih := l_mcopy i k pf m hm q Q suf (pre ++ [a]) kk true (by simp [hxs]) (by simpa using hk)
    simp only [append_len1, List.map_append, List.map_cons, List.map_nil, List.append_assoc, List.cons_append, List.nil_append, oS, ite_self] at ih
    simp only [Nat.add_assoc, Nat.reduceAdd] at hs
    simp only [eS, List.map_cons] at hs hg hlen hset ⊢
    have hif : (if a :: suf = [] then d6 else true) = true := by simp
    rw [un_c (c38_1.eq_1), hif]
    cases pf <;> cases d6 <;> simp +contextual -dsimp -implicitDefEqProofs (maxSteps := 5000000) only [h2, h3, h4, hg, hlen, hset, hs, gLs, go_sem, simprocAttr] <;> exact ih
theorem s_mcopy (i : Nat) (pf : Bool) (m : TMach) (hm : SmM m) : pureOf (Lv ctx (i + 3)) 38 [eM pf m] = some (oM m) := by
  have b0 := hm.b0
  have b1 := hm.b1
  have b2 := hm.b2
  have b3 := hm.b3
  have e4 : ((m.sess.length : Int) * 184 ≤ 140737488355328) = True := by simpa using hm.bs
  have e5 : ((m.trace.length : Int) * 32 ≤ 140737488355328) = True := by simpa using hm.bt
  refine sp_of rfl (m.sess.length + 1) (by rfl) ?_
  delta c38
  have hl := fun q Q d6 => l_mcopy i (m.sess.length + 1) pf m hm q Q m.sess [] m.sess.length d6 rfl (by omega)
  simp only [List.length_nil, Int.natCast_zero, List.map_nil, List.nil_append] at hl
  cases pf
  · simp +contextual -dsimp -implicitDefEqProofs (maxSteps := 5000000) only [b0, b1, b2, b3, e4, e5, gLs, go_sem, simprocAttr]
    refine Eq.mpr (hl _ _ true) ?_
    generalize (if m.sess = [] then true else true) = dd
    cases dd <;> simp +contextual -dsimp -implicitDefEqProofs (maxSteps := 5000000) only [go_sem, simprocAttr]
  · simp +contextual -dsimp -implicitDefEqProofs (maxSteps := 5000000) only [b0, b1, b2, b3, e4, e5, gLs, go_sem, simprocAttr]
    refine Eq.mpr (hl _ _ false) ?_
    generalize (if m.sess = [] then false else true) = dd
    cases dd <;> simp +contextual -dsimp -implicitDefEqProofs (maxSteps := 5000000) only [go_sem, simprocAttr]
end Ve
