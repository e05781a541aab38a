/- The statement StampOwn. -/
import Derived.Test.YtcipiajnabgkgaaGreatS35
import Derived.Test.YtcipiajnabgkgaaGreatS37
set_option linter.all false
set_option linter.unusedSectionVars false
namespace Ve
open Go Ve.Ab
set_option maxHeartbeats 16000000
set_option maxRecDepth 20000
theorem u_StampOwn (i : Nat) (m : TMach) (hm : SmM m) (at_ : Int) (haw : pureOf (Lv ctx (i + 23)) 24 [] = some (bV true)) : pureOf (Lv ctx (i + 24)) 6 [eM true m, iV at_] = some (bV true) := by
  have hz := w_zero (i + 20) true false
  have hz' := w_zero (i + 20) false false
  have h2 := s_stamp (i + 1) true m hm at_
  simp only [Nat.add_assoc, Nat.reduceAdd] at hz hz' h2
  rcases curS_cases m at_ 2 with ⟨h, h'⟩ | ⟨k, s, rfl, hs, hM, hS, hst, h, h'⟩ | ⟨k, s, rfl, hs, hM, hS, hst, h, h'⟩
  case inr.inr =>
    have hk := get_lt hs
    have e1 : (0 ≤ (k : Int)) = True := by simp
    have e2 : ((k : Int) < (m.sess.length : Int)) = True := by simpa using hk
    have d1 : decide ((k : Int) < 0) = false := by simp
    have d2 : decide ((m.sess.length : Int) ≤ (k : Int)) = false := by simp; try omega
    have dd : ∀ n : Int, decide (n = n) = true := fun n => by simp
    have hcl := clocks_may hM
    simp only [A4.all, Bool.and_eq_true] at hcl
    have wa := wrap_in hcl.1.1.1 (by omega)
    have wb := wrap_in hcl.1.1.2 (by omega)
    have wc := wrap_in hcl.1.2 (by omega)
    have wd := wrap_in hcl.2 (by omega)
    by_cases hc : m.ceil ≤ m.clocks.get s.label
    · have a1 := ended_sess (m := m) (k := k) (s := s) 5 0
      have a2 := ended_clocks (m := m) (k := k) (s := s) 5 0
      rw [stamp_end h' hc, end_at hs hM (by decide) (by decide)] at h2
      generalize ended m k s 5 0 = A at h2 a1 a2
      have hA : A.sess[k]? = some (endS s 5 0) := by rw [a1]; exact List.getElem?_set_self hk
      have al : A.sess.length = m.sess.length := by rw [a1]; exact List.length_set ..
      have e3 : ((k : Int) < (A.sess.length : Int)) = True := by rw [al]; exact e2
      have d3 : decide ((A.sess.length : Int) ≤ (k : Int)) = false := by rw [al]; exact d2
      have d4 : decide ((A.sess.length : Int) = (m.sess.length : Int)) = true := by rw [al]; simp
      simp only [endS, dropS] at hA
      have hl := hS.label
      rcases lab_cases s.label with h0 | h0 | h0 | h0 | h0
      case inr.inr.inr.inr => rw [hl] at h0; cases h0
      all_goals
        rw [h0] at hc
        simp only [A4.get, simprocAttr] at hc
        have hcd := decide_eq_true hc
        refine sp_of rfl 0 (by rfl) ?_
        delta c6
        simp +contextual -dsimp -implicitDefEqProofs (maxSteps := 5000000) only [haw, h2, hz, hz', hs, e1, e2, e3, d1, d2, d3, d4, hA, h0, hcd, a2, dd, go_sem, simprocAttr]
    · have q1 := fun p q => s_sameArena (i + 21) p q m.words m.words hm.w0 hm.w1 hm.w2 hm.w3
      have q2 := fun p q => s_sameEvents (i + 22) p false q false m.trace m.trace hm.tr
      simp only [Nat.add_assoc, Nat.reduceAdd, decide_true] at q1 q2
      rw [stamp_ok h' hc] at h2
      generalize ha : setS { m with clocks := m.clocks.set s.label (m.clocks.get s.label + 1) } ((k : Nat) : Int).toNat { s with stamp := m.clocks.get s.label + 1, step := 3 } = A at h2
      have a1 : A.sess = m.sess.set k { s with stamp := m.clocks.get s.label + 1, step := 3 } := by rw [← ha]; rfl
      have a2 : A.clocks = m.clocks.set s.label (m.clocks.get s.label + 1) := by rw [← ha]; rfl
      have a3 : A.words = m.words := by rw [← ha]; rfl
      have a4 : A.trace = m.trace := by rw [← ha]; rfl
      clear ha
      have hA : A.sess[k]? = some { s with stamp := m.clocks.get s.label + 1, step := 3 } := by rw [a1]; exact List.getElem?_set_self hk
      have al : A.sess.length = m.sess.length := by rw [a1]; exact List.length_set ..
      have e3 : ((k : Int) < (A.sess.length : Int)) = True := by rw [al]; exact e2
      have d3 : decide ((A.sess.length : Int) ≤ (k : Int)) = false := by rw [al]; exact d2
      have d4 : decide ((A.sess.length : Int) = (m.sess.length : Int)) = true := by rw [al]; simp
      have hl := hS.label
      rcases lab_cases s.label with h0 | h0 | h0 | h0 | h0
      case inr.inr.inr.inr => rw [hl] at h0; cases h0
      all_goals
        rw [h0] at hc a2 hA
        simp only [A4.get, A4.set, simprocAttr] at hc a2 hA
        have hcd := decide_eq_false hc
        refine sp_of rfl 0 (by rfl) ?_
        delta c6
        simp +contextual -dsimp -implicitDefEqProofs (maxSteps := 5000000) only [haw, h2, hz, hz', hs, e1, e2, e3, d1, d2, d3, d4, hA, h0, hcd, a2, a3, a4, q1, q2, dd, wa, wb, wc, wd, go_sem, simprocAttr]
  all_goals
    rw [stamp_none h', zero_o] at h2
    refine sp_of rfl 0 (by rfl) ?_
    delta c6
    simp +contextual -dsimp -implicitDefEqProofs (maxSteps := 5000000) only [haw, h2, hz, hz', go_sem, simprocAttr]
end Ve
