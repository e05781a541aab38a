/- The statement UndoAgain. -/
import Derived.Test.YtdmcpcghdegheaaGreatU1
import Derived.Test.YtdmcpcghdegheaaGreatS21
set_option linter.all false
set_option linter.unusedSectionVars false
namespace Ve
open Go Ve.Ab
set_option maxRecDepth 10000
set_option linter.unusedSimpArgs false
set_option linter.unusedVariables false
theorem s_sameSessionG (i : Nat) (p1 p2 p3 q1 q2 q3 : Bool) (a b : TSess) (h1 : a.prog.length ≤ BB) (h2 : a.reads.length ≤ BB) (h3 : a.writes.length ≤ BB) : pureOf (Lv ctx (i + 2)) 25
    [.agg [iV a.id, iV a.label, iV a.clear, eIs p1 a.prog, iV a.step, iV a.pc, iV a.regs.a0, iV a.regs.a1, iV a.regs.a2, iV a.regs.a3, eRs p2 a.reads, eWrs p3 a.writes, iV a.at_, iV a.stamp, iV a.tries, iV a.result, iV a.told],
     .agg [iV b.id, iV b.label, iV b.clear, eIs q1 b.prog, iV b.step, iV b.pc, iV b.regs.a0, iV b.regs.a1, iV b.regs.a2, iV b.regs.a3, eRs q2 b.reads, eWrs q3 b.writes, iV b.at_, iV b.stamp, iV b.tries, iV b.result, iV b.told]] = some (bV (decide (a = b))) := by
  have e1 := s_sameInsts i p1 false q1 false a.prog b.prog h1
  have e2 := s_sameReads i p2 false q2 false a.reads b.reads h2
  have e3 := s_sameWrites i p3 false q3 false a.writes b.writes h3
  refine sp_of rfl 0 (by rfl) ?_
  delta c25
  simp (config := { contextual := true, dsimp := false, implicitDefEqProofs := false, maxSteps := 5000000 }) only [e1, e2, e3, go_sem, Nat.reduceEqDiff, Nat.reduceAdd, Nat.reduceLeDiff, Nat.reduceMul, Nat.reduceLT, Nat.reduceBEq, Int.reduceLT, Int.reduceLE, Int.reduceToNat, Int.reduceAdd, Int.reduceSub, Int.reduceEq, Int.reduceNeg, ↓reduceIte]
  congr 2
  rw [Bool.eq_iff_iff]
  simp only [Bool.and_eq_true, decide_eq_true_eq, sess_eq, and_assoc]
abbrev zA (p : Bool) : V := .agg [.isl p false 3 [], .isl p false 3 [], .isl p false 3 [], .isl p false 3 [], iV 0, iV 0, iV 0, iV 0, iV 0, .isl p false 17 [], .isl p false 4 []]
theorem w_zero (i : Nat) (pa pb : Bool) : pureOf (Lv ctx (i + 3)) 19 [zA pa, zA pb] = some (bV true) := by
  have h := s_sameMachine i pa pb zeroM zeroM sm_zero
  simpa only [zeroM, zA, eM, cM, eWs, eSs, eEs, List.map_nil, decide_true] using h

theorem u_undoAgain (i : Nat) (m : TMach) (hm : SmM m) (at_ : Int) (haw : pureOf (Lv ctx (i + 22)) 22 [] = some (bV true)) : pureOf (Lv ctx (i + 23)) 6 [eM true m, iV at_] = some (bV true) := by
  have h2 := s_again (i + 1) true m hm at_ 3
  rcases here_cases m at_ with hn | ⟨k, s, rfl, hs, hM, hS⟩
  · have hz := w_zero (i + 19) true false
    rw [again_no hn, zero_o] at h2
    simp only [Nat.add_assoc, Nat.reduceAdd] at h2 hz
    refine sp_of rfl 0 (by rfl) ?_
    delta c6
    simp (config := { contextual := true, dsimp := false, implicitDefEqProofs := false, maxSteps := 5000000 }) only [h2, haw, hz, go_sem, Nat.reduceEqDiff, Nat.reduceAdd, Nat.reduceLeDiff, Nat.reduceMul, Nat.reduceLT, Nat.reduceBEq, Int.reduceLT, Int.reduceLE, Int.reduceToNat, Int.reduceAdd, Int.reduceSub, Int.reduceEq, Int.reduceNeg, ↓reduceIte]
  · rw [again_at hs hM (.inl rfl)] at h2
    have hk := get_lt hs
    have h1 : (0 ≤ (k : Int)) = True := by simp
    have h1' : decide ((k : Int) < 0) = false := by simp
    have h3 : ((k : Int) < (m.sess.length : Int)) = True := by simpa using hk
    have h3' : decide ((m.sess.length : Int) ≤ (k : Int)) = false := by simp; omega
    have e1 := anew_sess (m := m) (k := k) (s := s) 3
    have e3 : (m.sess.set k (againS s))[k]? = some (againS s) := List.getElem?_set_self hk
    have hmin : (if (65535 : Int) < IntKind.wrap .i64 (s.tries + 1) then (65535 : Int) else IntKind.wrap .i64 (s.tries + 1)) = minT s.tries := rfl
    have h5 := s_sameSessionG (i + 20) true true true true false false (againS s) ⟨s.id, s.label, s.clear, s.prog, 0, 0, ⟨0, 0, 0, 0⟩, [], [], 0, 0, minT s.tries, s.result, s.told⟩ (hm.s s (List.mem_of_getElem? hs)).p (by simp [againS, dropS]) (by simp [againS, dropS])
    have e5 : decide (againS s = ⟨s.id, s.label, s.clear, s.prog, 0, 0, ⟨0, 0, 0, 0⟩, [], [], 0, 0, minT s.tries, s.result, s.told⟩) = true := decide_eq_true rfl
    rw [e5] at h5
    simp only [Nat.add_assoc, Nat.reduceAdd, eRs, eWrs, List.map_nil] at h2 h5
    by_cases htr : m.trace.length < 512
    · have e2 : (anew m k s 3).trace = m.trace ++ [⟨s.id, s.label, 3, minT s.tries⟩] := by rw [anew, tell_trace]; exact if_pos htr
      have h6 : decide (((anew m k s 3).trace.length : Int) < 1) = false := by rw [e2]; simp; omega
      have h7 : decide ((512 : Int) ≤ (m.trace.length : Int)) = false := by simp; omega
      have h8 : IntKind.wrap .i64 (((anew m k s 3).trace.length : Int) - 1) = (m.trace.length : Int) := by
        rw [e2, List.length_append, List.length_singleton]
        rw [show (((m.trace.length + 1 : Nat) : Int) - 1) = (m.trace.length : Int) by omega]
        exact wrap_small (by omega) (by omega)
      have h9 : (anew m k s 3).trace[m.trace.length]? = some ⟨s.id, s.label, 3, minT s.tries⟩ := by rw [e2]; simp
      have h10 : ((m.trace.length : Int) < ((anew m k s 3).trace.length : Int)) = True := by rw [e2]; simp; omega
      have h11 : (0 ≤ (m.trace.length : Int)) = True := by simp
      refine sp_of rfl 0 (by rfl) ?_
      delta c6
      simp (config := { contextual := true, dsimp := false, implicitDefEqProofs := false, maxSteps := 5000000 }) only [h2, haw, hs, h1, h1', h3, h3', e1, e3, hmin, h5, h6, h7, h8, h9, h10, h11, List.length_set, go_sem, Nat.reduceEqDiff, Nat.reduceAdd, Nat.reduceLeDiff, Nat.reduceMul, Nat.reduceLT, Nat.reduceBEq, Int.reduceLT, Int.reduceLE, Int.reduceToNat, Int.reduceAdd, Int.reduceSub, Int.reduceEq, Int.reduceNeg, ↓reduceIte]
    · have e2 : (anew m k s 3).trace = m.trace := by rw [anew, tell_trace]; exact if_neg htr
      have h6 : decide (((anew m k s 3).trace.length : Int) < 1) = false := by rw [e2]; simp; omega
      have h7 : decide ((512 : Int) ≤ (m.trace.length : Int)) = true := by simp; omega
      refine sp_of rfl 0 (by rfl) ?_
      delta c6
      simp (config := { contextual := true, dsimp := false, implicitDefEqProofs := false, maxSteps := 5000000 }) only [h2, haw, hs, h1, h1', h3, h3', e1, e3, hmin, h5, h6, h7, List.length_set, go_sem, Nat.reduceEqDiff, Nat.reduceAdd, Nat.reduceLeDiff, Nat.reduceMul, Nat.reduceLT, Nat.reduceBEq, Int.reduceLT, Int.reduceLE, Int.reduceToNat, Int.reduceAdd, Int.reduceSub, Int.reduceEq, Int.reduceNeg, ↓reduceIte]
end Ve
