/- The statement BackOne. -/
import Derived.Test.YtdmcpcghdegheaaGreatU9
import Derived.Test.YtdmcpcghdegheaaGreatU2
import Derived.Test.YtdmcpcghdegheaaGreatPL6
set_option linter.all false
set_option linter.unusedSectionVars false
namespace Ve
open Go Ve.Ab
set_option maxRecDepth 10000
set_option linter.unusedSimpArgs false
set_option linter.unusedVariables false
set_option maxHeartbeats 8000000 in
theorem u_backOne (i : Nat) (m : TMach) (hm : SmM m) (at_ : Int) (haw : pureOf (Lv ctx (i + 23)) 31 [] = some (bV true)) : pureOf (Lv ctx (i + 24)) 11 [eM true m, iV at_] = some (bV true) := by
  have hz := w_zero (i + 20) false false
  have hz' := w_zero (i + 20) true false
  have h2 := s_back (i + 1) true m hm at_
  simp only [Nat.add_assoc, Nat.reduceAdd] at hz hz' h2
  rcases left_cases m at_ 4 with h | ⟨k, n, s, w, rfl, hs, hM, hS, hst, hp, hn, hi, hl⟩
  · rw [back_none h, zero_o] at h2
    refine sp_of rfl 6 (by rfl) ?_
    delta c11
    simp (config := { contextual := true, dsimp := false, implicitDefEqProofs := false, maxSteps := 5000000 }) only [haw, h2, hz, hz', go_sem, Nat.reduceEqDiff, Nat.reduceAdd, Nat.reduceLeDiff, Nat.reduceMul, Nat.reduceLT, Nat.reduceBEq, Int.reduceLT, Int.reduceLE, Int.reduceToNat, Int.reduceAdd, Int.reduceSub, Int.reduceEq, Int.reduceNeg, ↓reduceIte]
  · obtain ⟨t, W, e0⟩ := back_leaves hs hM hS hst hp hn hi
    rw [e0] at h2
    generalize (backM m k).1 = A at h2 W
    have hk := get_lt hs
    have e1 : (0 ≤ (k : Int)) = True := by simp
    have e1' : ((k : Int) < 0) = False := by simp; try omega
    have e2 : ((k : Int) < (m.sess.length : Int)) = True := by simpa using hk
    have e3 : ((k : Int) < (A.sess.length : Int)) = True := by rw [W.slen]; exact e2
    have d1 : decide ((k : Int) < 0) = false := by simp
    have d2 : decide ((m.sess.length : Int) ≤ (k : Int)) = false := by simp; try omega
    have d3 : decide ((A.sess.length : Int) ≤ (k : Int)) = false := by rw [W.slen]; exact d2
    have d4 : decide (s.at_ < 0) = false := by rw [hp]; simp
    have d5 : decide ((s.writes.length : Int) ≤ s.at_) = false := by rw [hp]; simp; try omega
    have p1 : (0 ≤ s.at_) = True := by rw [hp]; simp
    have p2 : (s.at_ < (s.writes.length : Int)) = True := by rw [hp]; simpa using hn
    have hn1 : IntKind.wrap .i64 (s.at_ + 1) = s.at_ + 1 := by
      have := (hm.s s (List.mem_of_getElem? hs)).bw
      exact wrap_small (by omega) (by omega)
    have hi' : s.writes[s.at_.toNat]? = some w := by rw [hp]; simpa using hi
    have hid : IntKind.wrap .i64 (s.id + 1) = s.id + 1 := id_wrap hS.id
    have hA := W.sess
    have dd : ∀ n : Int, decide (n = n) = true := fun n => by simp
    have q0 := W.l0
    have q1 := W.l1
    have q2 := W.l2
    have q3 := W.l3
    have qc := W.clocks
    cases hlb : decide (s.at_ + 1 = (s.writes.length : Int))
    · refine sp_of rfl (m.words.a0.length + m.words.a1.length + m.words.a2.length + m.words.a3.length + 5) (by rfl) ?_
      delta c11
      obtain ⟨st1, st2⟩ := W.more hlb
      simp (config := { contextual := true, dsimp := false, implicitDefEqProofs := false, maxSteps := 5000000 }) only [haw, h2, hz, hz', hs, e1, e1', e2, e3, d1, d2, d3, d4, d5, p1, p2, hn1, hi', hid, hA, hlb, dd, q0, q1, q2, q3, gLs 4 [2, 5, 7, 8, 9, 10, 11], ↓un_c (c11_2.eq_1), go_sem, Nat.reduceEqDiff, Nat.reduceAdd, Nat.reduceLeDiff, Nat.reduceMul, Nat.reduceLT, Nat.reduceBEq, Int.reduceLT, Int.reduceLE, Int.reduceToNat, Int.reduceAdd, Int.reduceSub, Int.reduceEq, Int.reduceNeg, ↓reduceIte]
      refine gl_each (S := fun j => ⟨ofLive [2, 5, 7, 8, 9, 10, 11, 12] [.ip true (cM true m) 0, .ptr 0 0 0, .ptr 1 0 0, .ptr 2 0 0, .ptr 3 0 0, bV false, iV 0, iV j], (pO (pO (pO (pO emptyHp 0 (some ⟨11, [eM true A], false⟩)) 1 (some ⟨17, [eS true s], false⟩)) 2 (some ⟨17, [eS true t], false⟩)) 3 (some ⟨3, [eWr w], false⟩)), 4⟩) m.words.a0.length (by rfl) (by omega) ?_ ?_
      · intro j kk hj hl
        have hx : m.words.a0[j]? = some m.words.a0[j] := by simp [hj]
        generalize m.words.a0[j] = x at hx
        have hx' : A.words.a0[j]? = some (wantW _ s w 0 j x) := W.word 0 j x (by decide) hx
        have l1 : ((j : Int) < (m.words.a0.length : Int)) = True := by simpa using hj
        have l2 : (0 ≤ (j : Int)) = True := by simp
        have l3 := wrN j (by have := hm.w0; omega)
        rw [hlb] at hx'
        cases c1 : decide ((0 : Int) = w.level)
        · have hw : wantW false s w 0 j x = ⟨x.val, x.ver, x.lock⟩ := by simp only [wantW, c1, Bool.and_true, Bool.and_false, Bool.true_and, Bool.false_and, Bool.false_eq_true, if_true, if_false]
          rw [hw] at hx'
          simp (config := { contextual := true, dsimp := false, implicitDefEqProofs := false, maxSteps := 5000000 }) only [hs, hx, hx', l1, l2, l3, hid, hlb, dd, c1, q0, q1, q2, q3, ↓un_c (c11_1.eq_1), go_sem, Nat.reduceEqDiff, Nat.reduceAdd, Nat.reduceLeDiff, Nat.reduceMul, Nat.reduceLT, Nat.reduceBEq, Int.reduceLT, Int.reduceLE, Int.reduceToNat, Int.reduceAdd, Int.reduceSub, Int.reduceEq, Int.reduceNeg, ↓reduceIte]
          exact gl_norm hl (by rfl)
        · cases c2 : decide ((j : Int) = w.index)
          · have hw : wantW false s w 0 j x = ⟨x.val, x.ver, x.lock⟩ := by simp only [wantW, c1, c2, Bool.and_true, Bool.and_false, Bool.true_and, Bool.false_and, Bool.false_eq_true, if_true, if_false]
            rw [hw] at hx'
            simp (config := { contextual := true, dsimp := false, implicitDefEqProofs := false, maxSteps := 5000000 }) only [hs, hx, hx', l1, l2, l3, hid, hlb, dd, c1, c2, q0, q1, q2, q3, ↓un_c (c11_1.eq_1), go_sem, Nat.reduceEqDiff, Nat.reduceAdd, Nat.reduceLeDiff, Nat.reduceMul, Nat.reduceLT, Nat.reduceBEq, Int.reduceLT, Int.reduceLE, Int.reduceToNat, Int.reduceAdd, Int.reduceSub, Int.reduceEq, Int.reduceNeg, ↓reduceIte]
            exact gl_norm hl (by rfl)
          · have hw : wantW false s w 0 j x = ⟨w.val, s.stamp, 0⟩ := by simp only [wantW, c1, c2, Bool.and_true, Bool.and_false, Bool.true_and, Bool.false_and, Bool.false_eq_true, if_true, if_false]
            rw [hw] at hx'
            simp (config := { contextual := true, dsimp := false, implicitDefEqProofs := false, maxSteps := 5000000 }) only [hs, hx, hx', l1, l2, l3, hid, hlb, dd, c1, c2, q0, q1, q2, q3, ↓un_c (c11_1.eq_1), go_sem, Nat.reduceEqDiff, Nat.reduceAdd, Nat.reduceLeDiff, Nat.reduceMul, Nat.reduceLT, Nat.reduceBEq, Int.reduceLT, Int.reduceLE, Int.reduceToNat, Int.reduceAdd, Int.reduceSub, Int.reduceEq, Int.reduceNeg, ↓reduceIte]
            exact gl_norm hl (by rfl)
      intro kk
      have l0 : decide ((m.words.a0.length : Int) < (m.words.a0.length : Int)) = false := by simp
      simp (config := { contextual := true, dsimp := false, implicitDefEqProofs := false, maxSteps := 5000000 }) only [l0, haw, h2, hz, hz', hs, e1, e1', e2, e3, d1, d2, d3, d4, d5, p1, p2, hn1, hi', hid, hA, hlb, dd, q0, q1, q2, q3, gLs 4 [2, 5, 7, 8, 9, 10, 11], ↓un_c (c11_1.eq_1), ↓un_c (c11_2.eq_1), go_sem, Nat.reduceEqDiff, Nat.reduceAdd, Nat.reduceLeDiff, Nat.reduceMul, Nat.reduceLT, Nat.reduceBEq, Int.reduceLT, Int.reduceLE, Int.reduceToNat, Int.reduceAdd, Int.reduceSub, Int.reduceEq, Int.reduceNeg, ↓reduceIte]
      clear l0
      refine gl_each (S := fun j => ⟨ofLive [2, 5, 7, 8, 9, 10, 11, 12] [.ip true (cM true m) 0, .ptr 0 0 0, .ptr 1 0 0, .ptr 2 0 0, .ptr 3 0 0, bV false, iV 1, iV j], (pO (pO (pO (pO emptyHp 0 (some ⟨11, [eM true A], false⟩)) 1 (some ⟨17, [eS true s], false⟩)) 2 (some ⟨17, [eS true t], false⟩)) 3 (some ⟨3, [eWr w], false⟩)), 4⟩) m.words.a1.length (by rfl) (by omega) ?_ ?_
      · intro j kk hj hl
        have hx : m.words.a1[j]? = some m.words.a1[j] := by simp [hj]
        generalize m.words.a1[j] = x at hx
        have hx' : A.words.a1[j]? = some (wantW _ s w 1 j x) := W.word 1 j x (by decide) hx
        have l1 : ((j : Int) < (m.words.a1.length : Int)) = True := by simpa using hj
        have l2 : (0 ≤ (j : Int)) = True := by simp
        have l3 := wrN j (by have := hm.w1; omega)
        rw [hlb] at hx'
        cases c1 : decide ((1 : Int) = w.level)
        · have hw : wantW false s w 1 j x = ⟨x.val, x.ver, x.lock⟩ := by simp only [wantW, c1, Bool.and_true, Bool.and_false, Bool.true_and, Bool.false_and, Bool.false_eq_true, if_true, if_false]
          rw [hw] at hx'
          simp (config := { contextual := true, dsimp := false, implicitDefEqProofs := false, maxSteps := 5000000 }) only [hs, hx, hx', l1, l2, l3, hid, hlb, dd, c1, q0, q1, q2, q3, ↓un_c (c11_1.eq_1), go_sem, Nat.reduceEqDiff, Nat.reduceAdd, Nat.reduceLeDiff, Nat.reduceMul, Nat.reduceLT, Nat.reduceBEq, Int.reduceLT, Int.reduceLE, Int.reduceToNat, Int.reduceAdd, Int.reduceSub, Int.reduceEq, Int.reduceNeg, ↓reduceIte]
          exact gl_norm hl (by rfl)
        · cases c2 : decide ((j : Int) = w.index)
          · have hw : wantW false s w 1 j x = ⟨x.val, x.ver, x.lock⟩ := by simp only [wantW, c1, c2, Bool.and_true, Bool.and_false, Bool.true_and, Bool.false_and, Bool.false_eq_true, if_true, if_false]
            rw [hw] at hx'
            simp (config := { contextual := true, dsimp := false, implicitDefEqProofs := false, maxSteps := 5000000 }) only [hs, hx, hx', l1, l2, l3, hid, hlb, dd, c1, c2, q0, q1, q2, q3, ↓un_c (c11_1.eq_1), go_sem, Nat.reduceEqDiff, Nat.reduceAdd, Nat.reduceLeDiff, Nat.reduceMul, Nat.reduceLT, Nat.reduceBEq, Int.reduceLT, Int.reduceLE, Int.reduceToNat, Int.reduceAdd, Int.reduceSub, Int.reduceEq, Int.reduceNeg, ↓reduceIte]
            exact gl_norm hl (by rfl)
          · have hw : wantW false s w 1 j x = ⟨w.val, s.stamp, 0⟩ := by simp only [wantW, c1, c2, Bool.and_true, Bool.and_false, Bool.true_and, Bool.false_and, Bool.false_eq_true, if_true, if_false]
            rw [hw] at hx'
            simp (config := { contextual := true, dsimp := false, implicitDefEqProofs := false, maxSteps := 5000000 }) only [hs, hx, hx', l1, l2, l3, hid, hlb, dd, c1, c2, q0, q1, q2, q3, ↓un_c (c11_1.eq_1), go_sem, Nat.reduceEqDiff, Nat.reduceAdd, Nat.reduceLeDiff, Nat.reduceMul, Nat.reduceLT, Nat.reduceBEq, Int.reduceLT, Int.reduceLE, Int.reduceToNat, Int.reduceAdd, Int.reduceSub, Int.reduceEq, Int.reduceNeg, ↓reduceIte]
            exact gl_norm hl (by rfl)
      intro kk
      have l0 : decide ((m.words.a1.length : Int) < (m.words.a1.length : Int)) = false := by simp
      simp (config := { contextual := true, dsimp := false, implicitDefEqProofs := false, maxSteps := 5000000 }) only [l0, haw, h2, hz, hz', hs, e1, e1', e2, e3, d1, d2, d3, d4, d5, p1, p2, hn1, hi', hid, hA, hlb, dd, q0, q1, q2, q3, gLs 4 [2, 5, 7, 8, 9, 10, 11], ↓un_c (c11_1.eq_1), ↓un_c (c11_2.eq_1), go_sem, Nat.reduceEqDiff, Nat.reduceAdd, Nat.reduceLeDiff, Nat.reduceMul, Nat.reduceLT, Nat.reduceBEq, Int.reduceLT, Int.reduceLE, Int.reduceToNat, Int.reduceAdd, Int.reduceSub, Int.reduceEq, Int.reduceNeg, ↓reduceIte]
      clear l0
      refine gl_each (S := fun j => ⟨ofLive [2, 5, 7, 8, 9, 10, 11, 12] [.ip true (cM true m) 0, .ptr 0 0 0, .ptr 1 0 0, .ptr 2 0 0, .ptr 3 0 0, bV false, iV 2, iV j], (pO (pO (pO (pO emptyHp 0 (some ⟨11, [eM true A], false⟩)) 1 (some ⟨17, [eS true s], false⟩)) 2 (some ⟨17, [eS true t], false⟩)) 3 (some ⟨3, [eWr w], false⟩)), 4⟩) m.words.a2.length (by rfl) (by omega) ?_ ?_
      · intro j kk hj hl
        have hx : m.words.a2[j]? = some m.words.a2[j] := by simp [hj]
        generalize m.words.a2[j] = x at hx
        have hx' : A.words.a2[j]? = some (wantW _ s w 2 j x) := W.word 2 j x (by decide) hx
        have l1 : ((j : Int) < (m.words.a2.length : Int)) = True := by simpa using hj
        have l2 : (0 ≤ (j : Int)) = True := by simp
        have l3 := wrN j (by have := hm.w2; omega)
        rw [hlb] at hx'
        cases c1 : decide ((2 : Int) = w.level)
        · have hw : wantW false s w 2 j x = ⟨x.val, x.ver, x.lock⟩ := by simp only [wantW, c1, Bool.and_true, Bool.and_false, Bool.true_and, Bool.false_and, Bool.false_eq_true, if_true, if_false]
          rw [hw] at hx'
          simp (config := { contextual := true, dsimp := false, implicitDefEqProofs := false, maxSteps := 5000000 }) only [hs, hx, hx', l1, l2, l3, hid, hlb, dd, c1, q0, q1, q2, q3, ↓un_c (c11_1.eq_1), go_sem, Nat.reduceEqDiff, Nat.reduceAdd, Nat.reduceLeDiff, Nat.reduceMul, Nat.reduceLT, Nat.reduceBEq, Int.reduceLT, Int.reduceLE, Int.reduceToNat, Int.reduceAdd, Int.reduceSub, Int.reduceEq, Int.reduceNeg, ↓reduceIte]
          exact gl_norm hl (by rfl)
        · cases c2 : decide ((j : Int) = w.index)
          · have hw : wantW false s w 2 j x = ⟨x.val, x.ver, x.lock⟩ := by simp only [wantW, c1, c2, Bool.and_true, Bool.and_false, Bool.true_and, Bool.false_and, Bool.false_eq_true, if_true, if_false]
            rw [hw] at hx'
            simp (config := { contextual := true, dsimp := false, implicitDefEqProofs := false, maxSteps := 5000000 }) only [hs, hx, hx', l1, l2, l3, hid, hlb, dd, c1, c2, q0, q1, q2, q3, ↓un_c (c11_1.eq_1), go_sem, Nat.reduceEqDiff, Nat.reduceAdd, Nat.reduceLeDiff, Nat.reduceMul, Nat.reduceLT, Nat.reduceBEq, Int.reduceLT, Int.reduceLE, Int.reduceToNat, Int.reduceAdd, Int.reduceSub, Int.reduceEq, Int.reduceNeg, ↓reduceIte]
            exact gl_norm hl (by rfl)
          · have hw : wantW false s w 2 j x = ⟨w.val, s.stamp, 0⟩ := by simp only [wantW, c1, c2, Bool.and_true, Bool.and_false, Bool.true_and, Bool.false_and, Bool.false_eq_true, if_true, if_false]
            rw [hw] at hx'
            simp (config := { contextual := true, dsimp := false, implicitDefEqProofs := false, maxSteps := 5000000 }) only [hs, hx, hx', l1, l2, l3, hid, hlb, dd, c1, c2, q0, q1, q2, q3, ↓un_c (c11_1.eq_1), go_sem, Nat.reduceEqDiff, Nat.reduceAdd, Nat.reduceLeDiff, Nat.reduceMul, Nat.reduceLT, Nat.reduceBEq, Int.reduceLT, Int.reduceLE, Int.reduceToNat, Int.reduceAdd, Int.reduceSub, Int.reduceEq, Int.reduceNeg, ↓reduceIte]
            exact gl_norm hl (by rfl)
      intro kk
      have l0 : decide ((m.words.a2.length : Int) < (m.words.a2.length : Int)) = false := by simp
      simp (config := { contextual := true, dsimp := false, implicitDefEqProofs := false, maxSteps := 5000000 }) only [l0, haw, h2, hz, hz', hs, e1, e1', e2, e3, d1, d2, d3, d4, d5, p1, p2, hn1, hi', hid, hA, hlb, dd, q0, q1, q2, q3, gLs 4 [2, 5, 7, 8, 9, 10, 11], ↓un_c (c11_1.eq_1), ↓un_c (c11_2.eq_1), go_sem, Nat.reduceEqDiff, Nat.reduceAdd, Nat.reduceLeDiff, Nat.reduceMul, Nat.reduceLT, Nat.reduceBEq, Int.reduceLT, Int.reduceLE, Int.reduceToNat, Int.reduceAdd, Int.reduceSub, Int.reduceEq, Int.reduceNeg, ↓reduceIte]
      clear l0
      refine gl_each (S := fun j => ⟨ofLive [2, 5, 7, 8, 9, 10, 11, 12] [.ip true (cM true m) 0, .ptr 0 0 0, .ptr 1 0 0, .ptr 2 0 0, .ptr 3 0 0, bV false, iV 3, iV j], (pO (pO (pO (pO emptyHp 0 (some ⟨11, [eM true A], false⟩)) 1 (some ⟨17, [eS true s], false⟩)) 2 (some ⟨17, [eS true t], false⟩)) 3 (some ⟨3, [eWr w], false⟩)), 4⟩) m.words.a3.length (by rfl) (by omega) ?_ ?_
      · intro j kk hj hl
        have hx : m.words.a3[j]? = some m.words.a3[j] := by simp [hj]
        generalize m.words.a3[j] = x at hx
        have hx' : A.words.a3[j]? = some (wantW _ s w 3 j x) := W.word 3 j x (by decide) hx
        have l1 : ((j : Int) < (m.words.a3.length : Int)) = True := by simpa using hj
        have l2 : (0 ≤ (j : Int)) = True := by simp
        have l3 := wrN j (by have := hm.w3; omega)
        rw [hlb] at hx'
        cases c1 : decide ((3 : Int) = w.level)
        · have hw : wantW false s w 3 j x = ⟨x.val, x.ver, x.lock⟩ := by simp only [wantW, c1, Bool.and_true, Bool.and_false, Bool.true_and, Bool.false_and, Bool.false_eq_true, if_true, if_false]
          rw [hw] at hx'
          simp (config := { contextual := true, dsimp := false, implicitDefEqProofs := false, maxSteps := 5000000 }) only [hs, hx, hx', l1, l2, l3, hid, hlb, dd, c1, q0, q1, q2, q3, ↓un_c (c11_1.eq_1), go_sem, Nat.reduceEqDiff, Nat.reduceAdd, Nat.reduceLeDiff, Nat.reduceMul, Nat.reduceLT, Nat.reduceBEq, Int.reduceLT, Int.reduceLE, Int.reduceToNat, Int.reduceAdd, Int.reduceSub, Int.reduceEq, Int.reduceNeg, ↓reduceIte]
          exact gl_norm hl (by rfl)
        · cases c2 : decide ((j : Int) = w.index)
          · have hw : wantW false s w 3 j x = ⟨x.val, x.ver, x.lock⟩ := by simp only [wantW, c1, c2, Bool.and_true, Bool.and_false, Bool.true_and, Bool.false_and, Bool.false_eq_true, if_true, if_false]
            rw [hw] at hx'
            simp (config := { contextual := true, dsimp := false, implicitDefEqProofs := false, maxSteps := 5000000 }) only [hs, hx, hx', l1, l2, l3, hid, hlb, dd, c1, c2, q0, q1, q2, q3, ↓un_c (c11_1.eq_1), go_sem, Nat.reduceEqDiff, Nat.reduceAdd, Nat.reduceLeDiff, Nat.reduceMul, Nat.reduceLT, Nat.reduceBEq, Int.reduceLT, Int.reduceLE, Int.reduceToNat, Int.reduceAdd, Int.reduceSub, Int.reduceEq, Int.reduceNeg, ↓reduceIte]
            exact gl_norm hl (by rfl)
          · have hw : wantW false s w 3 j x = ⟨w.val, s.stamp, 0⟩ := by simp only [wantW, c1, c2, Bool.and_true, Bool.and_false, Bool.true_and, Bool.false_and, Bool.false_eq_true, if_true, if_false]
            rw [hw] at hx'
            simp (config := { contextual := true, dsimp := false, implicitDefEqProofs := false, maxSteps := 5000000 }) only [hs, hx, hx', l1, l2, l3, hid, hlb, dd, c1, c2, q0, q1, q2, q3, ↓un_c (c11_1.eq_1), go_sem, Nat.reduceEqDiff, Nat.reduceAdd, Nat.reduceLeDiff, Nat.reduceMul, Nat.reduceLT, Nat.reduceBEq, Int.reduceLT, Int.reduceLE, Int.reduceToNat, Int.reduceAdd, Int.reduceSub, Int.reduceEq, Int.reduceNeg, ↓reduceIte]
            exact gl_norm hl (by rfl)
      intro kk
      have l0 : decide ((m.words.a3.length : Int) < (m.words.a3.length : Int)) = false := by simp
      simp (config := { contextual := true, dsimp := false, implicitDefEqProofs := false, maxSteps := 5000000 }) only [l0, haw, h2, hz, hz', hs, e1, e1', e2, e3, d1, d2, d3, d4, d5, p1, p2, hn1, hi', hid, hA, hlb, dd, q0, q1, q2, q3, qc, st1, st2, gLs 4 [2, 5, 7, 8, 9, 10, 11], ↓un_c (c11_1.eq_1), ↓un_c (c11_2.eq_1), go_sem, Nat.reduceEqDiff, Nat.reduceAdd, Nat.reduceLeDiff, Nat.reduceMul, Nat.reduceLT, Nat.reduceBEq, Int.reduceLT, Int.reduceLE, Int.reduceToNat, Int.reduceAdd, Int.reduceSub, Int.reduceEq, Int.reduceNeg, ↓reduceIte]
    · refine sp_of rfl (m.words.a0.length + m.words.a1.length + m.words.a2.length + m.words.a3.length + 5) (by rfl) ?_
      delta c11
      obtain ⟨st1, st2⟩ := W.done hlb
      simp (config := { contextual := true, dsimp := false, implicitDefEqProofs := false, maxSteps := 5000000 }) only [haw, h2, hz, hz', hs, e1, e1', e2, e3, d1, d2, d3, d4, d5, p1, p2, hn1, hi', hid, hA, hlb, dd, q0, q1, q2, q3, gLs 4 [2, 5, 7, 8, 9, 10, 11], ↓un_c (c11_2.eq_1), go_sem, Nat.reduceEqDiff, Nat.reduceAdd, Nat.reduceLeDiff, Nat.reduceMul, Nat.reduceLT, Nat.reduceBEq, Int.reduceLT, Int.reduceLE, Int.reduceToNat, Int.reduceAdd, Int.reduceSub, Int.reduceEq, Int.reduceNeg, ↓reduceIte]
      refine gl_each (S := fun j => ⟨ofLive [2, 5, 7, 8, 9, 10, 11, 12] [.ip true (cM true m) 0, .ptr 0 0 0, .ptr 1 0 0, .ptr 2 0 0, .ptr 3 0 0, bV true, iV 0, iV j], (pO (pO (pO (pO emptyHp 0 (some ⟨11, [eM true A], false⟩)) 1 (some ⟨17, [eS true s], false⟩)) 2 (some ⟨17, [eS true t], false⟩)) 3 (some ⟨3, [eWr w], false⟩)), 4⟩) m.words.a0.length (by rfl) (by omega) ?_ ?_
      · intro j kk hj hl
        have hx : m.words.a0[j]? = some m.words.a0[j] := by simp [hj]
        generalize m.words.a0[j] = x at hx
        have hx' : A.words.a0[j]? = some (wantW _ s w 0 j x) := W.word 0 j x (by decide) hx
        have l1 : ((j : Int) < (m.words.a0.length : Int)) = True := by simpa using hj
        have l2 : (0 ≤ (j : Int)) = True := by simp
        have l3 := wrN j (by have := hm.w0; omega)
        rw [hlb] at hx'
        cases c1 : decide ((0 : Int) = w.level)
        · cases c3 : decide (x.lock = s.id + 1)
          · have hw : wantW true s w 0 j x = ⟨x.val, x.ver, x.lock⟩ := by simp only [wantW, c1, c3, Bool.and_true, Bool.and_false, Bool.true_and, Bool.false_and, Bool.false_eq_true, if_true, if_false]
            rw [hw] at hx'
            simp (config := { contextual := true, dsimp := false, implicitDefEqProofs := false, maxSteps := 5000000 }) only [hs, hx, hx', l1, l2, l3, hid, hlb, dd, c1, c3, q0, q1, q2, q3, ↓un_c (c11_1.eq_1), go_sem, Nat.reduceEqDiff, Nat.reduceAdd, Nat.reduceLeDiff, Nat.reduceMul, Nat.reduceLT, Nat.reduceBEq, Int.reduceLT, Int.reduceLE, Int.reduceToNat, Int.reduceAdd, Int.reduceSub, Int.reduceEq, Int.reduceNeg, ↓reduceIte]
            exact gl_norm hl (by rfl)
          · have hw : wantW true s w 0 j x = ⟨x.val, x.ver, 0⟩ := by simp only [wantW, c1, c3, Bool.and_true, Bool.and_false, Bool.true_and, Bool.false_and, Bool.false_eq_true, if_true, if_false]
            rw [hw] at hx'
            simp (config := { contextual := true, dsimp := false, implicitDefEqProofs := false, maxSteps := 5000000 }) only [hs, hx, hx', l1, l2, l3, hid, hlb, dd, c1, c3, q0, q1, q2, q3, ↓un_c (c11_1.eq_1), go_sem, Nat.reduceEqDiff, Nat.reduceAdd, Nat.reduceLeDiff, Nat.reduceMul, Nat.reduceLT, Nat.reduceBEq, Int.reduceLT, Int.reduceLE, Int.reduceToNat, Int.reduceAdd, Int.reduceSub, Int.reduceEq, Int.reduceNeg, ↓reduceIte]
            exact gl_norm hl (by rfl)
        · cases c2 : decide ((j : Int) = w.index)
          · cases c3 : decide (x.lock = s.id + 1)
            · have hw : wantW true s w 0 j x = ⟨x.val, x.ver, x.lock⟩ := by simp only [wantW, c1, c2, c3, Bool.and_true, Bool.and_false, Bool.true_and, Bool.false_and, Bool.false_eq_true, if_true, if_false]
              rw [hw] at hx'
              simp (config := { contextual := true, dsimp := false, implicitDefEqProofs := false, maxSteps := 5000000 }) only [hs, hx, hx', l1, l2, l3, hid, hlb, dd, c1, c2, c3, q0, q1, q2, q3, ↓un_c (c11_1.eq_1), go_sem, Nat.reduceEqDiff, Nat.reduceAdd, Nat.reduceLeDiff, Nat.reduceMul, Nat.reduceLT, Nat.reduceBEq, Int.reduceLT, Int.reduceLE, Int.reduceToNat, Int.reduceAdd, Int.reduceSub, Int.reduceEq, Int.reduceNeg, ↓reduceIte]
              exact gl_norm hl (by rfl)
            · have hw : wantW true s w 0 j x = ⟨x.val, x.ver, 0⟩ := by simp only [wantW, c1, c2, c3, Bool.and_true, Bool.and_false, Bool.true_and, Bool.false_and, Bool.false_eq_true, if_true, if_false]
              rw [hw] at hx'
              simp (config := { contextual := true, dsimp := false, implicitDefEqProofs := false, maxSteps := 5000000 }) only [hs, hx, hx', l1, l2, l3, hid, hlb, dd, c1, c2, c3, q0, q1, q2, q3, ↓un_c (c11_1.eq_1), go_sem, Nat.reduceEqDiff, Nat.reduceAdd, Nat.reduceLeDiff, Nat.reduceMul, Nat.reduceLT, Nat.reduceBEq, Int.reduceLT, Int.reduceLE, Int.reduceToNat, Int.reduceAdd, Int.reduceSub, Int.reduceEq, Int.reduceNeg, ↓reduceIte]
              exact gl_norm hl (by rfl)
          · cases c3 : decide (x.lock = s.id + 1)
            · have hw : wantW true s w 0 j x = ⟨w.val, s.stamp, 0⟩ := by simp only [wantW, c1, c2, c3, Bool.and_true, Bool.and_false, Bool.true_and, Bool.false_and, Bool.false_eq_true, if_true, if_false]
              rw [hw] at hx'
              simp (config := { contextual := true, dsimp := false, implicitDefEqProofs := false, maxSteps := 5000000 }) only [hs, hx, hx', l1, l2, l3, hid, hlb, dd, c1, c2, c3, q0, q1, q2, q3, ↓un_c (c11_1.eq_1), go_sem, Nat.reduceEqDiff, Nat.reduceAdd, Nat.reduceLeDiff, Nat.reduceMul, Nat.reduceLT, Nat.reduceBEq, Int.reduceLT, Int.reduceLE, Int.reduceToNat, Int.reduceAdd, Int.reduceSub, Int.reduceEq, Int.reduceNeg, ↓reduceIte]
              exact gl_norm hl (by rfl)
            · have hw : wantW true s w 0 j x = ⟨w.val, s.stamp, 0⟩ := by simp only [wantW, c1, c2, c3, Bool.and_true, Bool.and_false, Bool.true_and, Bool.false_and, Bool.false_eq_true, if_true, if_false]
              rw [hw] at hx'
              simp (config := { contextual := true, dsimp := false, implicitDefEqProofs := false, maxSteps := 5000000 }) only [hs, hx, hx', l1, l2, l3, hid, hlb, dd, c1, c2, c3, q0, q1, q2, q3, ↓un_c (c11_1.eq_1), go_sem, Nat.reduceEqDiff, Nat.reduceAdd, Nat.reduceLeDiff, Nat.reduceMul, Nat.reduceLT, Nat.reduceBEq, Int.reduceLT, Int.reduceLE, Int.reduceToNat, Int.reduceAdd, Int.reduceSub, Int.reduceEq, Int.reduceNeg, ↓reduceIte]
              exact gl_norm hl (by rfl)
      intro kk
      have l0 : decide ((m.words.a0.length : Int) < (m.words.a0.length : Int)) = false := by simp
      simp (config := { contextual := true, dsimp := false, implicitDefEqProofs := false, maxSteps := 5000000 }) only [l0, haw, h2, hz, hz', hs, e1, e1', e2, e3, d1, d2, d3, d4, d5, p1, p2, hn1, hi', hid, hA, hlb, dd, q0, q1, q2, q3, gLs 4 [2, 5, 7, 8, 9, 10, 11], ↓un_c (c11_1.eq_1), ↓un_c (c11_2.eq_1), go_sem, Nat.reduceEqDiff, Nat.reduceAdd, Nat.reduceLeDiff, Nat.reduceMul, Nat.reduceLT, Nat.reduceBEq, Int.reduceLT, Int.reduceLE, Int.reduceToNat, Int.reduceAdd, Int.reduceSub, Int.reduceEq, Int.reduceNeg, ↓reduceIte]
      clear l0
      refine gl_each (S := fun j => ⟨ofLive [2, 5, 7, 8, 9, 10, 11, 12] [.ip true (cM true m) 0, .ptr 0 0 0, .ptr 1 0 0, .ptr 2 0 0, .ptr 3 0 0, bV true, iV 1, iV j], (pO (pO (pO (pO emptyHp 0 (some ⟨11, [eM true A], false⟩)) 1 (some ⟨17, [eS true s], false⟩)) 2 (some ⟨17, [eS true t], false⟩)) 3 (some ⟨3, [eWr w], false⟩)), 4⟩) m.words.a1.length (by rfl) (by omega) ?_ ?_
      · intro j kk hj hl
        have hx : m.words.a1[j]? = some m.words.a1[j] := by simp [hj]
        generalize m.words.a1[j] = x at hx
        have hx' : A.words.a1[j]? = some (wantW _ s w 1 j x) := W.word 1 j x (by decide) hx
        have l1 : ((j : Int) < (m.words.a1.length : Int)) = True := by simpa using hj
        have l2 : (0 ≤ (j : Int)) = True := by simp
        have l3 := wrN j (by have := hm.w1; omega)
        rw [hlb] at hx'
        cases c1 : decide ((1 : Int) = w.level)
        · cases c3 : decide (x.lock = s.id + 1)
          · have hw : wantW true s w 1 j x = ⟨x.val, x.ver, x.lock⟩ := by simp only [wantW, c1, c3, Bool.and_true, Bool.and_false, Bool.true_and, Bool.false_and, Bool.false_eq_true, if_true, if_false]
            rw [hw] at hx'
            simp (config := { contextual := true, dsimp := false, implicitDefEqProofs := false, maxSteps := 5000000 }) only [hs, hx, hx', l1, l2, l3, hid, hlb, dd, c1, c3, q0, q1, q2, q3, ↓un_c (c11_1.eq_1), go_sem, Nat.reduceEqDiff, Nat.reduceAdd, Nat.reduceLeDiff, Nat.reduceMul, Nat.reduceLT, Nat.reduceBEq, Int.reduceLT, Int.reduceLE, Int.reduceToNat, Int.reduceAdd, Int.reduceSub, Int.reduceEq, Int.reduceNeg, ↓reduceIte]
            exact gl_norm hl (by rfl)
          · have hw : wantW true s w 1 j x = ⟨x.val, x.ver, 0⟩ := by simp only [wantW, c1, c3, Bool.and_true, Bool.and_false, Bool.true_and, Bool.false_and, Bool.false_eq_true, if_true, if_false]
            rw [hw] at hx'
            simp (config := { contextual := true, dsimp := false, implicitDefEqProofs := false, maxSteps := 5000000 }) only [hs, hx, hx', l1, l2, l3, hid, hlb, dd, c1, c3, q0, q1, q2, q3, ↓un_c (c11_1.eq_1), go_sem, Nat.reduceEqDiff, Nat.reduceAdd, Nat.reduceLeDiff, Nat.reduceMul, Nat.reduceLT, Nat.reduceBEq, Int.reduceLT, Int.reduceLE, Int.reduceToNat, Int.reduceAdd, Int.reduceSub, Int.reduceEq, Int.reduceNeg, ↓reduceIte]
            exact gl_norm hl (by rfl)
        · cases c2 : decide ((j : Int) = w.index)
          · cases c3 : decide (x.lock = s.id + 1)
            · have hw : wantW true s w 1 j x = ⟨x.val, x.ver, x.lock⟩ := by simp only [wantW, c1, c2, c3, Bool.and_true, Bool.and_false, Bool.true_and, Bool.false_and, Bool.false_eq_true, if_true, if_false]
              rw [hw] at hx'
              simp (config := { contextual := true, dsimp := false, implicitDefEqProofs := false, maxSteps := 5000000 }) only [hs, hx, hx', l1, l2, l3, hid, hlb, dd, c1, c2, c3, q0, q1, q2, q3, ↓un_c (c11_1.eq_1), go_sem, Nat.reduceEqDiff, Nat.reduceAdd, Nat.reduceLeDiff, Nat.reduceMul, Nat.reduceLT, Nat.reduceBEq, Int.reduceLT, Int.reduceLE, Int.reduceToNat, Int.reduceAdd, Int.reduceSub, Int.reduceEq, Int.reduceNeg, ↓reduceIte]
              exact gl_norm hl (by rfl)
            · have hw : wantW true s w 1 j x = ⟨x.val, x.ver, 0⟩ := by simp only [wantW, c1, c2, c3, Bool.and_true, Bool.and_false, Bool.true_and, Bool.false_and, Bool.false_eq_true, if_true, if_false]
              rw [hw] at hx'
              simp (config := { contextual := true, dsimp := false, implicitDefEqProofs := false, maxSteps := 5000000 }) only [hs, hx, hx', l1, l2, l3, hid, hlb, dd, c1, c2, c3, q0, q1, q2, q3, ↓un_c (c11_1.eq_1), go_sem, Nat.reduceEqDiff, Nat.reduceAdd, Nat.reduceLeDiff, Nat.reduceMul, Nat.reduceLT, Nat.reduceBEq, Int.reduceLT, Int.reduceLE, Int.reduceToNat, Int.reduceAdd, Int.reduceSub, Int.reduceEq, Int.reduceNeg, ↓reduceIte]
              exact gl_norm hl (by rfl)
          · cases c3 : decide (x.lock = s.id + 1)
            · have hw : wantW true s w 1 j x = ⟨w.val, s.stamp, 0⟩ := by simp only [wantW, c1, c2, c3, Bool.and_true, Bool.and_false, Bool.true_and, Bool.false_and, Bool.false_eq_true, if_true, if_false]
              rw [hw] at hx'
              simp (config := { contextual := true, dsimp := false, implicitDefEqProofs := false, maxSteps := 5000000 }) only [hs, hx, hx', l1, l2, l3, hid, hlb, dd, c1, c2, c3, q0, q1, q2, q3, ↓un_c (c11_1.eq_1), go_sem, Nat.reduceEqDiff, Nat.reduceAdd, Nat.reduceLeDiff, Nat.reduceMul, Nat.reduceLT, Nat.reduceBEq, Int.reduceLT, Int.reduceLE, Int.reduceToNat, Int.reduceAdd, Int.reduceSub, Int.reduceEq, Int.reduceNeg, ↓reduceIte]
              exact gl_norm hl (by rfl)
            · have hw : wantW true s w 1 j x = ⟨w.val, s.stamp, 0⟩ := by simp only [wantW, c1, c2, c3, Bool.and_true, Bool.and_false, Bool.true_and, Bool.false_and, Bool.false_eq_true, if_true, if_false]
              rw [hw] at hx'
              simp (config := { contextual := true, dsimp := false, implicitDefEqProofs := false, maxSteps := 5000000 }) only [hs, hx, hx', l1, l2, l3, hid, hlb, dd, c1, c2, c3, q0, q1, q2, q3, ↓un_c (c11_1.eq_1), go_sem, Nat.reduceEqDiff, Nat.reduceAdd, Nat.reduceLeDiff, Nat.reduceMul, Nat.reduceLT, Nat.reduceBEq, Int.reduceLT, Int.reduceLE, Int.reduceToNat, Int.reduceAdd, Int.reduceSub, Int.reduceEq, Int.reduceNeg, ↓reduceIte]
              exact gl_norm hl (by rfl)
      intro kk
      have l0 : decide ((m.words.a1.length : Int) < (m.words.a1.length : Int)) = false := by simp
      simp (config := { contextual := true, dsimp := false, implicitDefEqProofs := false, maxSteps := 5000000 }) only [l0, haw, h2, hz, hz', hs, e1, e1', e2, e3, d1, d2, d3, d4, d5, p1, p2, hn1, hi', hid, hA, hlb, dd, q0, q1, q2, q3, gLs 4 [2, 5, 7, 8, 9, 10, 11], ↓un_c (c11_1.eq_1), ↓un_c (c11_2.eq_1), go_sem, Nat.reduceEqDiff, Nat.reduceAdd, Nat.reduceLeDiff, Nat.reduceMul, Nat.reduceLT, Nat.reduceBEq, Int.reduceLT, Int.reduceLE, Int.reduceToNat, Int.reduceAdd, Int.reduceSub, Int.reduceEq, Int.reduceNeg, ↓reduceIte]
      clear l0
      refine gl_each (S := fun j => ⟨ofLive [2, 5, 7, 8, 9, 10, 11, 12] [.ip true (cM true m) 0, .ptr 0 0 0, .ptr 1 0 0, .ptr 2 0 0, .ptr 3 0 0, bV true, iV 2, iV j], (pO (pO (pO (pO emptyHp 0 (some ⟨11, [eM true A], false⟩)) 1 (some ⟨17, [eS true s], false⟩)) 2 (some ⟨17, [eS true t], false⟩)) 3 (some ⟨3, [eWr w], false⟩)), 4⟩) m.words.a2.length (by rfl) (by omega) ?_ ?_
      · intro j kk hj hl
        have hx : m.words.a2[j]? = some m.words.a2[j] := by simp [hj]
        generalize m.words.a2[j] = x at hx
        have hx' : A.words.a2[j]? = some (wantW _ s w 2 j x) := W.word 2 j x (by decide) hx
        have l1 : ((j : Int) < (m.words.a2.length : Int)) = True := by simpa using hj
        have l2 : (0 ≤ (j : Int)) = True := by simp
        have l3 := wrN j (by have := hm.w2; omega)
        rw [hlb] at hx'
        cases c1 : decide ((2 : Int) = w.level)
        · cases c3 : decide (x.lock = s.id + 1)
          · have hw : wantW true s w 2 j x = ⟨x.val, x.ver, x.lock⟩ := by simp only [wantW, c1, c3, Bool.and_true, Bool.and_false, Bool.true_and, Bool.false_and, Bool.false_eq_true, if_true, if_false]
            rw [hw] at hx'
            simp (config := { contextual := true, dsimp := false, implicitDefEqProofs := false, maxSteps := 5000000 }) only [hs, hx, hx', l1, l2, l3, hid, hlb, dd, c1, c3, q0, q1, q2, q3, ↓un_c (c11_1.eq_1), go_sem, Nat.reduceEqDiff, Nat.reduceAdd, Nat.reduceLeDiff, Nat.reduceMul, Nat.reduceLT, Nat.reduceBEq, Int.reduceLT, Int.reduceLE, Int.reduceToNat, Int.reduceAdd, Int.reduceSub, Int.reduceEq, Int.reduceNeg, ↓reduceIte]
            exact gl_norm hl (by rfl)
          · have hw : wantW true s w 2 j x = ⟨x.val, x.ver, 0⟩ := by simp only [wantW, c1, c3, Bool.and_true, Bool.and_false, Bool.true_and, Bool.false_and, Bool.false_eq_true, if_true, if_false]
            rw [hw] at hx'
            simp (config := { contextual := true, dsimp := false, implicitDefEqProofs := false, maxSteps := 5000000 }) only [hs, hx, hx', l1, l2, l3, hid, hlb, dd, c1, c3, q0, q1, q2, q3, ↓un_c (c11_1.eq_1), go_sem, Nat.reduceEqDiff, Nat.reduceAdd, Nat.reduceLeDiff, Nat.reduceMul, Nat.reduceLT, Nat.reduceBEq, Int.reduceLT, Int.reduceLE, Int.reduceToNat, Int.reduceAdd, Int.reduceSub, Int.reduceEq, Int.reduceNeg, ↓reduceIte]
            exact gl_norm hl (by rfl)
        · cases c2 : decide ((j : Int) = w.index)
          · cases c3 : decide (x.lock = s.id + 1)
            · have hw : wantW true s w 2 j x = ⟨x.val, x.ver, x.lock⟩ := by simp only [wantW, c1, c2, c3, Bool.and_true, Bool.and_false, Bool.true_and, Bool.false_and, Bool.false_eq_true, if_true, if_false]
              rw [hw] at hx'
              simp (config := { contextual := true, dsimp := false, implicitDefEqProofs := false, maxSteps := 5000000 }) only [hs, hx, hx', l1, l2, l3, hid, hlb, dd, c1, c2, c3, q0, q1, q2, q3, ↓un_c (c11_1.eq_1), go_sem, Nat.reduceEqDiff, Nat.reduceAdd, Nat.reduceLeDiff, Nat.reduceMul, Nat.reduceLT, Nat.reduceBEq, Int.reduceLT, Int.reduceLE, Int.reduceToNat, Int.reduceAdd, Int.reduceSub, Int.reduceEq, Int.reduceNeg, ↓reduceIte]
              exact gl_norm hl (by rfl)
            · have hw : wantW true s w 2 j x = ⟨x.val, x.ver, 0⟩ := by simp only [wantW, c1, c2, c3, Bool.and_true, Bool.and_false, Bool.true_and, Bool.false_and, Bool.false_eq_true, if_true, if_false]
              rw [hw] at hx'
              simp (config := { contextual := true, dsimp := false, implicitDefEqProofs := false, maxSteps := 5000000 }) only [hs, hx, hx', l1, l2, l3, hid, hlb, dd, c1, c2, c3, q0, q1, q2, q3, ↓un_c (c11_1.eq_1), go_sem, Nat.reduceEqDiff, Nat.reduceAdd, Nat.reduceLeDiff, Nat.reduceMul, Nat.reduceLT, Nat.reduceBEq, Int.reduceLT, Int.reduceLE, Int.reduceToNat, Int.reduceAdd, Int.reduceSub, Int.reduceEq, Int.reduceNeg, ↓reduceIte]
              exact gl_norm hl (by rfl)
          · cases c3 : decide (x.lock = s.id + 1)
            · have hw : wantW true s w 2 j x = ⟨w.val, s.stamp, 0⟩ := by simp only [wantW, c1, c2, c3, Bool.and_true, Bool.and_false, Bool.true_and, Bool.false_and, Bool.false_eq_true, if_true, if_false]
              rw [hw] at hx'
              simp (config := { contextual := true, dsimp := false, implicitDefEqProofs := false, maxSteps := 5000000 }) only [hs, hx, hx', l1, l2, l3, hid, hlb, dd, c1, c2, c3, q0, q1, q2, q3, ↓un_c (c11_1.eq_1), go_sem, Nat.reduceEqDiff, Nat.reduceAdd, Nat.reduceLeDiff, Nat.reduceMul, Nat.reduceLT, Nat.reduceBEq, Int.reduceLT, Int.reduceLE, Int.reduceToNat, Int.reduceAdd, Int.reduceSub, Int.reduceEq, Int.reduceNeg, ↓reduceIte]
              exact gl_norm hl (by rfl)
            · have hw : wantW true s w 2 j x = ⟨w.val, s.stamp, 0⟩ := by simp only [wantW, c1, c2, c3, Bool.and_true, Bool.and_false, Bool.true_and, Bool.false_and, Bool.false_eq_true, if_true, if_false]
              rw [hw] at hx'
              simp (config := { contextual := true, dsimp := false, implicitDefEqProofs := false, maxSteps := 5000000 }) only [hs, hx, hx', l1, l2, l3, hid, hlb, dd, c1, c2, c3, q0, q1, q2, q3, ↓un_c (c11_1.eq_1), go_sem, Nat.reduceEqDiff, Nat.reduceAdd, Nat.reduceLeDiff, Nat.reduceMul, Nat.reduceLT, Nat.reduceBEq, Int.reduceLT, Int.reduceLE, Int.reduceToNat, Int.reduceAdd, Int.reduceSub, Int.reduceEq, Int.reduceNeg, ↓reduceIte]
              exact gl_norm hl (by rfl)
      intro kk
      have l0 : decide ((m.words.a2.length : Int) < (m.words.a2.length : Int)) = false := by simp
      simp (config := { contextual := true, dsimp := false, implicitDefEqProofs := false, maxSteps := 5000000 }) only [l0, haw, h2, hz, hz', hs, e1, e1', e2, e3, d1, d2, d3, d4, d5, p1, p2, hn1, hi', hid, hA, hlb, dd, q0, q1, q2, q3, gLs 4 [2, 5, 7, 8, 9, 10, 11], ↓un_c (c11_1.eq_1), ↓un_c (c11_2.eq_1), go_sem, Nat.reduceEqDiff, Nat.reduceAdd, Nat.reduceLeDiff, Nat.reduceMul, Nat.reduceLT, Nat.reduceBEq, Int.reduceLT, Int.reduceLE, Int.reduceToNat, Int.reduceAdd, Int.reduceSub, Int.reduceEq, Int.reduceNeg, ↓reduceIte]
      clear l0
      refine gl_each (S := fun j => ⟨ofLive [2, 5, 7, 8, 9, 10, 11, 12] [.ip true (cM true m) 0, .ptr 0 0 0, .ptr 1 0 0, .ptr 2 0 0, .ptr 3 0 0, bV true, iV 3, iV j], (pO (pO (pO (pO emptyHp 0 (some ⟨11, [eM true A], false⟩)) 1 (some ⟨17, [eS true s], false⟩)) 2 (some ⟨17, [eS true t], false⟩)) 3 (some ⟨3, [eWr w], false⟩)), 4⟩) m.words.a3.length (by rfl) (by omega) ?_ ?_
      · intro j kk hj hl
        have hx : m.words.a3[j]? = some m.words.a3[j] := by simp [hj]
        generalize m.words.a3[j] = x at hx
        have hx' : A.words.a3[j]? = some (wantW _ s w 3 j x) := W.word 3 j x (by decide) hx
        have l1 : ((j : Int) < (m.words.a3.length : Int)) = True := by simpa using hj
        have l2 : (0 ≤ (j : Int)) = True := by simp
        have l3 := wrN j (by have := hm.w3; omega)
        rw [hlb] at hx'
        cases c1 : decide ((3 : Int) = w.level)
        · cases c3 : decide (x.lock = s.id + 1)
          · have hw : wantW true s w 3 j x = ⟨x.val, x.ver, x.lock⟩ := by simp only [wantW, c1, c3, Bool.and_true, Bool.and_false, Bool.true_and, Bool.false_and, Bool.false_eq_true, if_true, if_false]
            rw [hw] at hx'
            simp (config := { contextual := true, dsimp := false, implicitDefEqProofs := false, maxSteps := 5000000 }) only [hs, hx, hx', l1, l2, l3, hid, hlb, dd, c1, c3, q0, q1, q2, q3, ↓un_c (c11_1.eq_1), go_sem, Nat.reduceEqDiff, Nat.reduceAdd, Nat.reduceLeDiff, Nat.reduceMul, Nat.reduceLT, Nat.reduceBEq, Int.reduceLT, Int.reduceLE, Int.reduceToNat, Int.reduceAdd, Int.reduceSub, Int.reduceEq, Int.reduceNeg, ↓reduceIte]
            exact gl_norm hl (by rfl)
          · have hw : wantW true s w 3 j x = ⟨x.val, x.ver, 0⟩ := by simp only [wantW, c1, c3, Bool.and_true, Bool.and_false, Bool.true_and, Bool.false_and, Bool.false_eq_true, if_true, if_false]
            rw [hw] at hx'
            simp (config := { contextual := true, dsimp := false, implicitDefEqProofs := false, maxSteps := 5000000 }) only [hs, hx, hx', l1, l2, l3, hid, hlb, dd, c1, c3, q0, q1, q2, q3, ↓un_c (c11_1.eq_1), go_sem, Nat.reduceEqDiff, Nat.reduceAdd, Nat.reduceLeDiff, Nat.reduceMul, Nat.reduceLT, Nat.reduceBEq, Int.reduceLT, Int.reduceLE, Int.reduceToNat, Int.reduceAdd, Int.reduceSub, Int.reduceEq, Int.reduceNeg, ↓reduceIte]
            exact gl_norm hl (by rfl)
        · cases c2 : decide ((j : Int) = w.index)
          · cases c3 : decide (x.lock = s.id + 1)
            · have hw : wantW true s w 3 j x = ⟨x.val, x.ver, x.lock⟩ := by simp only [wantW, c1, c2, c3, Bool.and_true, Bool.and_false, Bool.true_and, Bool.false_and, Bool.false_eq_true, if_true, if_false]
              rw [hw] at hx'
              simp (config := { contextual := true, dsimp := false, implicitDefEqProofs := false, maxSteps := 5000000 }) only [hs, hx, hx', l1, l2, l3, hid, hlb, dd, c1, c2, c3, q0, q1, q2, q3, ↓un_c (c11_1.eq_1), go_sem, Nat.reduceEqDiff, Nat.reduceAdd, Nat.reduceLeDiff, Nat.reduceMul, Nat.reduceLT, Nat.reduceBEq, Int.reduceLT, Int.reduceLE, Int.reduceToNat, Int.reduceAdd, Int.reduceSub, Int.reduceEq, Int.reduceNeg, ↓reduceIte]
              exact gl_norm hl (by rfl)
            · have hw : wantW true s w 3 j x = ⟨x.val, x.ver, 0⟩ := by simp only [wantW, c1, c2, c3, Bool.and_true, Bool.and_false, Bool.true_and, Bool.false_and, Bool.false_eq_true, if_true, if_false]
              rw [hw] at hx'
              simp (config := { contextual := true, dsimp := false, implicitDefEqProofs := false, maxSteps := 5000000 }) only [hs, hx, hx', l1, l2, l3, hid, hlb, dd, c1, c2, c3, q0, q1, q2, q3, ↓un_c (c11_1.eq_1), go_sem, Nat.reduceEqDiff, Nat.reduceAdd, Nat.reduceLeDiff, Nat.reduceMul, Nat.reduceLT, Nat.reduceBEq, Int.reduceLT, Int.reduceLE, Int.reduceToNat, Int.reduceAdd, Int.reduceSub, Int.reduceEq, Int.reduceNeg, ↓reduceIte]
              exact gl_norm hl (by rfl)
          · cases c3 : decide (x.lock = s.id + 1)
            · have hw : wantW true s w 3 j x = ⟨w.val, s.stamp, 0⟩ := by simp only [wantW, c1, c2, c3, Bool.and_true, Bool.and_false, Bool.true_and, Bool.false_and, Bool.false_eq_true, if_true, if_false]
              rw [hw] at hx'
              simp (config := { contextual := true, dsimp := false, implicitDefEqProofs := false, maxSteps := 5000000 }) only [hs, hx, hx', l1, l2, l3, hid, hlb, dd, c1, c2, c3, q0, q1, q2, q3, ↓un_c (c11_1.eq_1), go_sem, Nat.reduceEqDiff, Nat.reduceAdd, Nat.reduceLeDiff, Nat.reduceMul, Nat.reduceLT, Nat.reduceBEq, Int.reduceLT, Int.reduceLE, Int.reduceToNat, Int.reduceAdd, Int.reduceSub, Int.reduceEq, Int.reduceNeg, ↓reduceIte]
              exact gl_norm hl (by rfl)
            · have hw : wantW true s w 3 j x = ⟨w.val, s.stamp, 0⟩ := by simp only [wantW, c1, c2, c3, Bool.and_true, Bool.and_false, Bool.true_and, Bool.false_and, Bool.false_eq_true, if_true, if_false]
              rw [hw] at hx'
              simp (config := { contextual := true, dsimp := false, implicitDefEqProofs := false, maxSteps := 5000000 }) only [hs, hx, hx', l1, l2, l3, hid, hlb, dd, c1, c2, c3, q0, q1, q2, q3, ↓un_c (c11_1.eq_1), go_sem, Nat.reduceEqDiff, Nat.reduceAdd, Nat.reduceLeDiff, Nat.reduceMul, Nat.reduceLT, Nat.reduceBEq, Int.reduceLT, Int.reduceLE, Int.reduceToNat, Int.reduceAdd, Int.reduceSub, Int.reduceEq, Int.reduceNeg, ↓reduceIte]
              exact gl_norm hl (by rfl)
      intro kk
      have l0 : decide ((m.words.a3.length : Int) < (m.words.a3.length : Int)) = false := by simp
      simp (config := { contextual := true, dsimp := false, implicitDefEqProofs := false, maxSteps := 5000000 }) only [l0, haw, h2, hz, hz', hs, e1, e1', e2, e3, d1, d2, d3, d4, d5, p1, p2, hn1, hi', hid, hA, hlb, dd, q0, q1, q2, q3, qc, st1, st2, gLs 4 [2, 5, 7, 8, 9, 10, 11], ↓un_c (c11_1.eq_1), ↓un_c (c11_2.eq_1), go_sem, Nat.reduceEqDiff, Nat.reduceAdd, Nat.reduceLeDiff, Nat.reduceMul, Nat.reduceLT, Nat.reduceBEq, Int.reduceLT, Int.reduceLE, Int.reduceToNat, Int.reduceAdd, Int.reduceSub, Int.reduceEq, Int.reduceNeg, ↓reduceIte]
end Ve
