/- The statement UndoEnds. -/
import Derived.Test.YtdmcpcghdegheaaGreatU5
import Derived.Test.YtdmcpcghdegheaaGreatS21
set_option linter.all false
set_option linter.unusedSectionVars false
namespace Ve
open Go Ve.Ab
set_option maxRecDepth 10000
set_option linter.unusedSimpArgs false
set_option linter.unusedVariables false
theorem r_step_done (i : Nat) (pf : Bool) (m : TMach) (hm : SmM m) (k : Nat) (s : TSess) (hs : m.sess[k]? = some s) (hM : MayP m) (h6 : s.step = 6) : pureOf (Lv ctx (i + 12)) 27 [eM pf m, iV k] = some (.tup [oM m, iV 0]) := by
  have qh := r_here (i + 3) pf m k hm
  have qc := r_copy (i + 9) pf m hm
  have hk := get_lt hs
  have e1 : (0 ≤ (k : Int)) = True := by simp
  have e2 : ((k : Int) < (m.sess.length : Int)) = True := by simpa using hk
  have hh : hereM m k = true := here_of hM hk
  simp only [Nat.add_assoc, Nat.reduceAdd] at qh qc
  refine sp_of rfl 0 (by rfl) ?_
  delta c27
  cases pf <;> simp (config := { contextual := true, dsimp := false, implicitDefEqProofs := false, maxSteps := 5000000 }) only [qh, qc, hh, hs, e1, e2, h6, go_sem, Nat.reduceEqDiff, Nat.reduceAdd, Nat.reduceLeDiff, Nat.reduceMul, Nat.reduceLT, Nat.reduceBEq, Int.reduceLT, Int.reduceLE, Int.reduceToNat, Int.reduceAdd, Int.reduceSub, Int.reduceEq, Int.reduceNeg, ↓reduceIte]
theorem u_undoEnds (i : Nat) (m : TMach) (hm : SmM m) (at_ result told : Int) (haw : pureOf (Lv ctx (i + 22)) 22 [] = some (bV true)) : pureOf (Lv ctx (i + 23)) 7 [eM true m, iV at_, iV result, iV told] = some (bV true) := by
  have hR := rem_u result (b := 6) (by omega) (by omega)
  have hRin : inR ((uW result).tmod 6) 5 = true := rem_inR result (b := 6) (by omega)
  have hTin := mask255 told
  generalize (uW result).tmod 6 = R at hR hRin
  generalize hTd : andI told 255 = T at hTin
  have h3 := s_end (i + 1) true m hm at_ R T
  have h4 := r_may (i + 15) true m hm
  have hne : (6 : Int) ≠ 0 := by decide
  have hrem : ∀ t a, opBin lay .rem t (.lit (.int .u64 a)) (.lit (.int .u64 6)) = some (.lit (.int .u64 (a.tmod 6))) := fun t a => bin_rem hne
  rcases here_cases m at_ with hn | ⟨k, s, rfl, hs, hM, hS⟩
  · have hz := w_zero (i + 19) true false
    rw [end_no hn, zero_o] at h3
    have h7 := not_here hn
    simp only [Nat.add_assoc, Nat.reduceAdd] at h3 h4 hz
    refine sp_of rfl 0 (by rfl) ?_
    delta c7
    simp (config := { contextual := true, dsimp := false, implicitDefEqProofs := false, maxSteps := 5000000 }) only [h3, h4, hz, haw, h7, hrem, hR, hTd, opConvert, go_sem, Nat.reduceEqDiff, Nat.reduceAdd, Nat.reduceLeDiff, Nat.reduceMul, Nat.reduceLT, Nat.reduceBEq, Int.reduceLT, Int.reduceLE, Int.reduceToNat, Int.reduceAdd, Int.reduceSub, Int.reduceEq, Int.reduceNeg, ↓reduceIte]
  · have hk := get_lt hs
    have hp := ended_may hs hM hRin hTin
    have e2 := ended_sess (m := m) (k := k) (s := s) R T
    have g2 : (ended m k s R T).sess[k]? = some (endS s R T) := by rw [e2]; exact List.getElem?_set_self hk
    have smp : SmM (ended m k s R T) := by have := sm_end hm k R T; rwa [end_at hs hM hRin hTin] at this
    rw [end_at hs hM hRin hTin] at h3
    have h5 := r_step_done (i + 10) true _ smp k _ g2 hp rfl
    have h6 := s_sameMachine (i + 19) true true (ended m k s R T) (ended m k s R T) smp
    rw [decide_eq_true rfl] at h6
    generalize ended m k s R T = P at h3 h5 h6 hp g2 smp
    have lp := get_lt g2
    have l0 : (0 ≤ (k : Int)) = True := by simp
    have l1 : ((k : Int) < (P.sess.length : Int)) = True := by simpa using lp
    have l2 : decide ((P.sess.length : Int) ≤ (k : Int)) = false := by simp; omega
    have l3 : decide ((k : Int) < 0) = false := by simp
    have d1 : decide ((endS s R T).step = 6) = true := rfl
    have d2 : decide ((endS s R T).result = R) = true := decide_eq_true rfl
    have d3 : decide ((endS s R T).told = T) = true := decide_eq_true rfl
    have d4 : (endS s R T).reads.length = 0 := rfl
    have d5 : (endS s R T).writes.length = 0 := rfl
    have d6 : (endS s R T).at_ = 0 := rfl
    have d7 : (endS s R T).stamp = 0 := rfl
    simp only [Nat.add_assoc, Nat.reduceAdd] at h3 h4 h5 h6
    refine sp_of rfl 0 (by rfl) ?_
    delta c7
    simp (config := { contextual := true, dsimp := false, implicitDefEqProofs := false, maxSteps := 5000000 }) only [h3, h4, h5, h6, haw, hrem, hR, hTd, opConvert, g2, l0, l1, l2, l3, d1, d2, d3, d4, d5, d6, d7, Int.add_zero, go_sem, Nat.reduceEqDiff, Nat.reduceAdd, Nat.reduceLeDiff, Nat.reduceMul, Nat.reduceLT, Nat.reduceBEq, Int.reduceLT, Int.reduceLE, Int.reduceToNat, Int.reduceAdd, Int.reduceSub, Int.reduceEq, Int.reduceNeg, ↓reduceIte]
end Ve
