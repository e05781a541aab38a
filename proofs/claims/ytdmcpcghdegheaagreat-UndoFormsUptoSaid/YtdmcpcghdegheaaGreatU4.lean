/- The statement UndoTurns. -/
import Derived.Test.YtdmcpcghdegheaaGreatU3
set_option linter.all false
set_option linter.unusedSectionVars false
namespace Ve
open Go Ve.Ab
set_option maxRecDepth 10000
set_option linter.unusedSimpArgs false
set_option linter.unusedVariables false
set_option maxHeartbeats 4000000 in
theorem u_turns (i : Nat) (m a : TMach) (hm : SmM m) (ha : SmM a) (k : Nat) (s s' : TSess) (hs : m.sess[k]? = some s) (hi : inR s.id 254 = true) (e1 : a.clocks = m.clocks) (e2 : a.ceil = m.ceil) (e3 : a.sess = m.sess.set k s') (e4 : a.words = (freeM (s.id + 1) m).words) (e5 : s'.label = s.label) (e6 : s'.reads = []) (e7 : s'.writes = []) :
    pureOf (Lv ctx (i + 3)) 23 [eM true m, eM true a, iV k] = some (bV true) := by
  have hk := get_lt hs
  have h1 : (0 ≤ (k : Int)) = True := by simp
  have h1' : decide ((k : Int) < 0) = false := by simp
  have h3 : ((k : Int) < (m.sess.length : Int)) = True := by simpa using hk
  have h3' : decide ((m.sess.length : Int) ≤ (k : Int)) = false := by simp; omega
  have g1 : (m.sess.set k s')[k]? = some s' := List.getElem?_set_self hk
  have hw : IntKind.wrap .i64 (s.id + 1) = s.id + 1 := id_wrap hi
  have w0 : a.words.a0 = m.words.a0.map (freeW (s.id + 1)) := by rw [e4]; rfl
  have w1 : a.words.a1 = m.words.a1.map (freeW (s.id + 1)) := by rw [e4]; rfl
  have w2 : a.words.a2 = m.words.a2.map (freeW (s.id + 1)) := by rw [e4]; rfl
  have w3 : a.words.a3 = m.words.a3.map (freeW (s.id + 1)) := by rw [e4]; rfl
  have dd : ∀ n : Int, decide (n = n) = true := fun n => by simp
  refine sp_of rfl (m.words.a0.length + m.words.a1.length + m.words.a2.length + m.words.a3.length + m.sess.length + 5) (by rfl) ?_
  delta c23
  simp (config := { contextual := true, dsimp := false, implicitDefEqProofs := false, maxSteps := 5000000 }) only [h1, h1', h3, h3', e1, e2, e3, w0, w1, w2, w3, gLs 0 [2, 3, 4, 7], ↓un_c (c23_2.eq_1), List.length_set, List.length_map, dd, go_sem, Nat.reduceEqDiff, Nat.reduceAdd, Nat.reduceLeDiff, Nat.reduceMul, Nat.reduceLT, Nat.reduceBEq, Int.reduceLT, Int.reduceLE, Int.reduceToNat, Int.reduceAdd, Int.reduceSub, Int.reduceEq, Int.reduceNeg, ↓reduceIte]
  refine gl_each (S := fun j => ⟨ofLive [2, 3, 4, 7, 8] [iV k, .ip true (cM true m) 0, .ip true (cM true a) 0, iV 0, iV j], emptyHp, 0⟩) m.words.a0.length (by simp only [cM, e1, e2, e3, w0, w1, w2, w3]; rfl) (by omega) ?_ ?_
  · intro j kk hj hl
    have hx : m.words.a0[j]? = some m.words.a0[j] := by simp [hj]
    generalize m.words.a0[j] = x at hx
    have l1 : ((j : Int) < (m.words.a0.length : Int)) = True := by simpa using hj
    have l2 : (0 ≤ (j : Int)) = True := by simp
    have l3 := wrN j (by have := hm.w0; omega)
    simp only [cM, e1, e2, e3, w0, w1, w2, w3] at hl ⊢
    by_cases hlk : x.lock = s.id + 1
    · have hf : freeW (s.id + 1) x = ⟨x.val, x.ver, 0⟩ := by simp [freeW, hlk]
      have h5 : decide (x.lock = s.id + 1) = true := by simpa using hlk
      simp (config := { contextual := true, dsimp := false, implicitDefEqProofs := false, maxSteps := 5000000 }) only [hl, h1, h3, hs, hx, l1, l2, l3, hf, h5, hw, dd, ↓un_c (c23_1.eq_1), List.length_map, List.length_set, go_sem, Nat.reduceEqDiff, Nat.reduceAdd, Nat.reduceLeDiff, Nat.reduceMul, Nat.reduceLT, Nat.reduceBEq, Int.reduceLT, Int.reduceLE, Int.reduceToNat, Int.reduceAdd, Int.reduceSub, Int.reduceEq, Int.reduceNeg, ↓reduceIte]
      rw [gl_heap0 (by rfl)]; exact hl
    · have hf : freeW (s.id + 1) x = ⟨x.val, x.ver, x.lock⟩ := by simp [freeW, hlk]
      have h5 : decide (x.lock = s.id + 1) = false := by simpa using hlk
      simp (config := { contextual := true, dsimp := false, implicitDefEqProofs := false, maxSteps := 5000000 }) only [hl, h1, h3, hs, hx, l1, l2, l3, hf, h5, hw, dd, ↓un_c (c23_1.eq_1), List.length_map, List.length_set, go_sem, Nat.reduceEqDiff, Nat.reduceAdd, Nat.reduceLeDiff, Nat.reduceMul, Nat.reduceLT, Nat.reduceBEq, Int.reduceLT, Int.reduceLE, Int.reduceToNat, Int.reduceAdd, Int.reduceSub, Int.reduceEq, Int.reduceNeg, ↓reduceIte]
      rw [gl_heap0 (by rfl)]; exact hl
  intro kk
  have l0 : decide ((m.words.a0.length : Int) < (m.words.a0.length : Int)) = false := by simp
  simp (config := { contextual := true, dsimp := false, implicitDefEqProofs := false, maxSteps := 5000000 }) only [l0, gLs 0 [2, 3, 4, 7], w0, w1, w2, w3, e1, e2, e3, ↓un_c (c23_1.eq_1), ↓un_c (c23_2.eq_1), List.length_map, List.length_set, dd, go_sem, Nat.reduceEqDiff, Nat.reduceAdd, Nat.reduceLeDiff, Nat.reduceMul, Nat.reduceLT, Nat.reduceBEq, Int.reduceLT, Int.reduceLE, Int.reduceToNat, Int.reduceAdd, Int.reduceSub, Int.reduceEq, Int.reduceNeg, ↓reduceIte]
  refine gl_each (S := fun j => ⟨ofLive [2, 3, 4, 7, 8] [iV k, .ip true (cM true m) 0, .ip true (cM true a) 0, iV 1, iV j], emptyHp, 0⟩) m.words.a1.length (by simp only [cM, e1, e2, e3, w0, w1, w2, w3]; rfl) (by omega) ?_ ?_
  · intro j kk hj hl
    have hx : m.words.a1[j]? = some m.words.a1[j] := by simp [hj]
    generalize m.words.a1[j] = x at hx
    have l1 : ((j : Int) < (m.words.a1.length : Int)) = True := by simpa using hj
    have l2 : (0 ≤ (j : Int)) = True := by simp
    have l3 := wrN j (by have := hm.w1; omega)
    simp only [cM, e1, e2, e3, w0, w1, w2, w3] at hl ⊢
    by_cases hlk : x.lock = s.id + 1
    · have hf : freeW (s.id + 1) x = ⟨x.val, x.ver, 0⟩ := by simp [freeW, hlk]
      have h5 : decide (x.lock = s.id + 1) = true := by simpa using hlk
      simp (config := { contextual := true, dsimp := false, implicitDefEqProofs := false, maxSteps := 5000000 }) only [hl, h1, h3, hs, hx, l1, l2, l3, hf, h5, hw, dd, ↓un_c (c23_1.eq_1), List.length_map, List.length_set, go_sem, Nat.reduceEqDiff, Nat.reduceAdd, Nat.reduceLeDiff, Nat.reduceMul, Nat.reduceLT, Nat.reduceBEq, Int.reduceLT, Int.reduceLE, Int.reduceToNat, Int.reduceAdd, Int.reduceSub, Int.reduceEq, Int.reduceNeg, ↓reduceIte]
      rw [gl_heap0 (by rfl)]; exact hl
    · have hf : freeW (s.id + 1) x = ⟨x.val, x.ver, x.lock⟩ := by simp [freeW, hlk]
      have h5 : decide (x.lock = s.id + 1) = false := by simpa using hlk
      simp (config := { contextual := true, dsimp := false, implicitDefEqProofs := false, maxSteps := 5000000 }) only [hl, h1, h3, hs, hx, l1, l2, l3, hf, h5, hw, dd, ↓un_c (c23_1.eq_1), List.length_map, List.length_set, go_sem, Nat.reduceEqDiff, Nat.reduceAdd, Nat.reduceLeDiff, Nat.reduceMul, Nat.reduceLT, Nat.reduceBEq, Int.reduceLT, Int.reduceLE, Int.reduceToNat, Int.reduceAdd, Int.reduceSub, Int.reduceEq, Int.reduceNeg, ↓reduceIte]
      rw [gl_heap0 (by rfl)]; exact hl
  intro kk
  have l0 : decide ((m.words.a1.length : Int) < (m.words.a1.length : Int)) = false := by simp
  simp (config := { contextual := true, dsimp := false, implicitDefEqProofs := false, maxSteps := 5000000 }) only [l0, gLs 0 [2, 3, 4, 7], w0, w1, w2, w3, e1, e2, e3, ↓un_c (c23_1.eq_1), ↓un_c (c23_2.eq_1), List.length_map, List.length_set, dd, go_sem, Nat.reduceEqDiff, Nat.reduceAdd, Nat.reduceLeDiff, Nat.reduceMul, Nat.reduceLT, Nat.reduceBEq, Int.reduceLT, Int.reduceLE, Int.reduceToNat, Int.reduceAdd, Int.reduceSub, Int.reduceEq, Int.reduceNeg, ↓reduceIte]
  refine gl_each (S := fun j => ⟨ofLive [2, 3, 4, 7, 8] [iV k, .ip true (cM true m) 0, .ip true (cM true a) 0, iV 2, iV j], emptyHp, 0⟩) m.words.a2.length (by simp only [cM, e1, e2, e3, w0, w1, w2, w3]; rfl) (by omega) ?_ ?_
  · intro j kk hj hl
    have hx : m.words.a2[j]? = some m.words.a2[j] := by simp [hj]
    generalize m.words.a2[j] = x at hx
    have l1 : ((j : Int) < (m.words.a2.length : Int)) = True := by simpa using hj
    have l2 : (0 ≤ (j : Int)) = True := by simp
    have l3 := wrN j (by have := hm.w2; omega)
    simp only [cM, e1, e2, e3, w0, w1, w2, w3] at hl ⊢
    by_cases hlk : x.lock = s.id + 1
    · have hf : freeW (s.id + 1) x = ⟨x.val, x.ver, 0⟩ := by simp [freeW, hlk]
      have h5 : decide (x.lock = s.id + 1) = true := by simpa using hlk
      simp (config := { contextual := true, dsimp := false, implicitDefEqProofs := false, maxSteps := 5000000 }) only [hl, h1, h3, hs, hx, l1, l2, l3, hf, h5, hw, dd, ↓un_c (c23_1.eq_1), List.length_map, List.length_set, go_sem, Nat.reduceEqDiff, Nat.reduceAdd, Nat.reduceLeDiff, Nat.reduceMul, Nat.reduceLT, Nat.reduceBEq, Int.reduceLT, Int.reduceLE, Int.reduceToNat, Int.reduceAdd, Int.reduceSub, Int.reduceEq, Int.reduceNeg, ↓reduceIte]
      rw [gl_heap0 (by rfl)]; exact hl
    · have hf : freeW (s.id + 1) x = ⟨x.val, x.ver, x.lock⟩ := by simp [freeW, hlk]
      have h5 : decide (x.lock = s.id + 1) = false := by simpa using hlk
      simp (config := { contextual := true, dsimp := false, implicitDefEqProofs := false, maxSteps := 5000000 }) only [hl, h1, h3, hs, hx, l1, l2, l3, hf, h5, hw, dd, ↓un_c (c23_1.eq_1), List.length_map, List.length_set, go_sem, Nat.reduceEqDiff, Nat.reduceAdd, Nat.reduceLeDiff, Nat.reduceMul, Nat.reduceLT, Nat.reduceBEq, Int.reduceLT, Int.reduceLE, Int.reduceToNat, Int.reduceAdd, Int.reduceSub, Int.reduceEq, Int.reduceNeg, ↓reduceIte]
      rw [gl_heap0 (by rfl)]; exact hl
  intro kk
  have l0 : decide ((m.words.a2.length : Int) < (m.words.a2.length : Int)) = false := by simp
  simp (config := { contextual := true, dsimp := false, implicitDefEqProofs := false, maxSteps := 5000000 }) only [l0, gLs 0 [2, 3, 4, 7], w0, w1, w2, w3, e1, e2, e3, ↓un_c (c23_1.eq_1), ↓un_c (c23_2.eq_1), List.length_map, List.length_set, dd, go_sem, Nat.reduceEqDiff, Nat.reduceAdd, Nat.reduceLeDiff, Nat.reduceMul, Nat.reduceLT, Nat.reduceBEq, Int.reduceLT, Int.reduceLE, Int.reduceToNat, Int.reduceAdd, Int.reduceSub, Int.reduceEq, Int.reduceNeg, ↓reduceIte]
  refine gl_each (S := fun j => ⟨ofLive [2, 3, 4, 7, 8] [iV k, .ip true (cM true m) 0, .ip true (cM true a) 0, iV 3, iV j], emptyHp, 0⟩) m.words.a3.length (by simp only [cM, e1, e2, e3, w0, w1, w2, w3]; rfl) (by omega) ?_ ?_
  · intro j kk hj hl
    have hx : m.words.a3[j]? = some m.words.a3[j] := by simp [hj]
    generalize m.words.a3[j] = x at hx
    have l1 : ((j : Int) < (m.words.a3.length : Int)) = True := by simpa using hj
    have l2 : (0 ≤ (j : Int)) = True := by simp
    have l3 := wrN j (by have := hm.w3; omega)
    simp only [cM, e1, e2, e3, w0, w1, w2, w3] at hl ⊢
    by_cases hlk : x.lock = s.id + 1
    · have hf : freeW (s.id + 1) x = ⟨x.val, x.ver, 0⟩ := by simp [freeW, hlk]
      have h5 : decide (x.lock = s.id + 1) = true := by simpa using hlk
      simp (config := { contextual := true, dsimp := false, implicitDefEqProofs := false, maxSteps := 5000000 }) only [hl, h1, h3, hs, hx, l1, l2, l3, hf, h5, hw, dd, ↓un_c (c23_1.eq_1), List.length_map, List.length_set, go_sem, Nat.reduceEqDiff, Nat.reduceAdd, Nat.reduceLeDiff, Nat.reduceMul, Nat.reduceLT, Nat.reduceBEq, Int.reduceLT, Int.reduceLE, Int.reduceToNat, Int.reduceAdd, Int.reduceSub, Int.reduceEq, Int.reduceNeg, ↓reduceIte]
      rw [gl_heap0 (by rfl)]; exact hl
    · have hf : freeW (s.id + 1) x = ⟨x.val, x.ver, x.lock⟩ := by simp [freeW, hlk]
      have h5 : decide (x.lock = s.id + 1) = false := by simpa using hlk
      simp (config := { contextual := true, dsimp := false, implicitDefEqProofs := false, maxSteps := 5000000 }) only [hl, h1, h3, hs, hx, l1, l2, l3, hf, h5, hw, dd, ↓un_c (c23_1.eq_1), List.length_map, List.length_set, go_sem, Nat.reduceEqDiff, Nat.reduceAdd, Nat.reduceLeDiff, Nat.reduceMul, Nat.reduceLT, Nat.reduceBEq, Int.reduceLT, Int.reduceLE, Int.reduceToNat, Int.reduceAdd, Int.reduceSub, Int.reduceEq, Int.reduceNeg, ↓reduceIte]
      rw [gl_heap0 (by rfl)]; exact hl
  intro kk
  have l0 : decide ((m.words.a3.length : Int) < (m.words.a3.length : Int)) = false := by simp
  simp (config := { contextual := true, dsimp := false, implicitDefEqProofs := false, maxSteps := 5000000 }) only [l0, gLs 0 [2, 3, 4, 7], w0, w1, w2, w3, e1, e2, e3, ↓un_c (c23_1.eq_1), ↓un_c (c23_2.eq_1), List.length_map, List.length_set, dd, go_sem, Nat.reduceEqDiff, Nat.reduceAdd, Nat.reduceLeDiff, Nat.reduceMul, Nat.reduceLT, Nat.reduceBEq, Int.reduceLT, Int.reduceLE, Int.reduceToNat, Int.reduceAdd, Int.reduceSub, Int.reduceEq, Int.reduceNeg, ↓reduceIte]
  refine gl_each (S := fun j => ⟨ofLive [2, 3, 4, 12] [iV k, .ip true (cM true m) 0, .ip true (cM true a) 0, iV j], emptyHp, 0⟩) m.sess.length (by simp only [cM, e1, e2, e3, w0, w1, w2, w3]; rfl) (by omega) ?_ ?_
  · intro j kk hj hl
    have l1 : ((j : Int) < (m.sess.length : Int)) = True := by simpa using hj
    have l2 : (0 ≤ (j : Int)) = True := by simp
    have l3 := wrN j (by have := hm.ss; omega)
    simp only [cM, e1, e2, e3, w0, w1, w2, w3] at hl ⊢
    by_cases hjk : j = k
    · have h5 : decide ((j : Int) = (k : Int)) = true := decide_eq_true (by rw [hjk])
      simp (config := { contextual := true, dsimp := false, implicitDefEqProofs := false, maxSteps := 5000000 }) only [h1, h3, hs, l1, l2, l3, h5, hw, ↓un_c (c23_3.eq_1), List.length_map, List.length_set, go_sem, Nat.reduceEqDiff, Nat.reduceAdd, Nat.reduceLeDiff, Nat.reduceMul, Nat.reduceLT, Nat.reduceBEq, Int.reduceLT, Int.reduceLE, Int.reduceToNat, Int.reduceAdd, Int.reduceSub, Int.reduceEq, Int.reduceNeg, ↓reduceIte]
      exact hl
    · have h5 : decide ((j : Int) = (k : Int)) = false := by simp; omega
      have hx : m.sess[j]? = some m.sess[j] := by simp [hj]
      have hmem : m.sess[j] ∈ m.sess := List.getElem_mem hj
      have hx' : (m.sess.set k s')[j]? = m.sess[j]? := by rw [List.getElem?_set]; simp [Ne.symm hjk]
      generalize m.sess[j] = x at hx hmem
      have h6 := s_sameSession (i + 0) true true x x (hm.s x hmem).p (hm.s x hmem).r (hm.s x hmem).w
      rw [decide_eq_true rfl] at h6
      simp only [Nat.add_assoc, Nat.reduceAdd, eS] at h6
      simp (config := { contextual := true, dsimp := false, implicitDefEqProofs := false, maxSteps := 5000000 }) only [h1, h3, hs, hx, hx', h6, l1, l2, l3, h5, hw, ↓un_c (c23_3.eq_1), List.length_map, List.length_set, go_sem, Nat.reduceEqDiff, Nat.reduceAdd, Nat.reduceLeDiff, Nat.reduceMul, Nat.reduceLT, Nat.reduceBEq, Int.reduceLT, Int.reduceLE, Int.reduceToNat, Int.reduceAdd, Int.reduceSub, Int.reduceEq, Int.reduceNeg, ↓reduceIte]
      rw [gl_heap0 (by rfl)]; exact hl
  intro kk
  have l0 : decide ((m.sess.length : Int) < (m.sess.length : Int)) = false := by simp
  simp (config := { contextual := true, dsimp := false, implicitDefEqProofs := false, maxSteps := 5000000 }) only [l0, h1, h3, hs, g1, e1, e2, e3, e5, e6, e7, w0, w1, w2, w3, ↓un_c (c23_3.eq_1), List.length_map, List.length_set, List.map_nil, dd, go_sem, Nat.reduceEqDiff, Nat.reduceAdd, Nat.reduceLeDiff, Nat.reduceMul, Nat.reduceLT, Nat.reduceBEq, Int.reduceLT, Int.reduceLE, Int.reduceToNat, Int.reduceAdd, Int.reduceSub, Int.reduceEq, Int.reduceNeg, ↓reduceIte]
  rw [gE_draw (hd := by rfl)]
  simp (config := { contextual := true, dsimp := false, implicitDefEqProofs := false, maxSteps := 5000000 }) only [l0, h1, h3, hs, g1, e1, e2, e3, e5, e6, e7, w0, w1, w2, w3, List.length_map, List.length_set, List.map_nil, dd, go_sem, Nat.reduceEqDiff, Nat.reduceAdd, Nat.reduceLeDiff, Nat.reduceMul, Nat.reduceLT, Nat.reduceBEq, Int.reduceLT, Int.reduceLE, Int.reduceToNat, Int.reduceAdd, Int.reduceSub, Int.reduceEq, Int.reduceNeg, ↓reduceIte]
end Ve
