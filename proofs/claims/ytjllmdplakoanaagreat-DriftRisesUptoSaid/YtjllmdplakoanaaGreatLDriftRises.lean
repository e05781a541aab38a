/- The statement DriftRises. -/
import Derived.Test.YtjllmdplakoanaaGreatS40
import Derived.Test.YtjllmdplakoanaaGreatS37
import Derived.Test.YtjllmdplakoanaaGreatPL12
set_option linter.all false
set_option linter.unusedSectionVars false
namespace Ve
open Go Ve.Ab
set_option maxHeartbeats 16000000
set_option maxRecDepth 20000
theorem u_DriftRises (i : Nat) (m : TMach) (hm : SmM m) (at_ : Int) (haw : pureOf (Lv ctx (i + 24)) 20 [] = some (bV true)) : pureOf (Lv ctx (i + 25)) 4 [eM true m, iV at_] = some (bV true) := by
  have hz := w_zero (i + 21) true false
  have hz' := w_zero (i + 21) false false
  have h2 := s_drift (i + 1) true m hm at_
  simp only [Nat.add_assoc, Nat.reduceAdd] at hz hz' h2
  rcases read_cases m at_ with h | ⟨k, n, s, x, rfl, hs, hM, hS, hst, hp, hn, hi, hc, hcur⟩
  · obtain ⟨_, g2, _⟩ := no_read h
    rw [g2, zero_o] at h2
    refine sp_of rfl 0 (by rfl) ?_
    delta c4
    simp +contextual -dsimp -implicitDefEqProofs (maxSteps := 5000000) only [haw, h2, hz, hz', go_sem, simprocAttr]
  · have hk := get_lt hs
    have e1 : (0 ≤ (k : Int)) = True := by simp
    have e2 : ((k : Int) < (m.sess.length : Int)) = True := by simpa using hk
    have d1 : decide ((k : Int) < 0) = false := by simp
    have d2 : decide ((m.sess.length : Int) ≤ (k : Int)) = false := by simp; try omega
    have dd : ∀ n : Int, decide (n = n) = true := fun n => by simp
    have hlx := (inst_lab (sp_inst hS hi).1 (.inl hc)).1
    obtain ⟨o1, o2, o3, o4⟩ := or_lab hS.label hlx
    have z0 : decide (s.step = 6) = false := by rw [hst]; rfl
    cases hu : under x.b s.label
    · cases hcl : under (orI s.label x.b) s.clear
      · have e : driftM m k = endM m k 4 0 := by unfold driftM; rw [hcur]; simp only [hc, hu, hcl]; rfl
        have a1 := ended_sess (m := m) (k := k) (s := s) 4 0
        have a2 := ended_clocks (m := m) (k := k) (s := s) 4 0
        have hmE : SmM (ended m k s 4 0) := by
          have := sm_end hm k 4 0
          rw [end_at hs hM (by decide) (by decide)] at this; exact this
        have q1 := fun p => s_sameArena (i + 22) true p (ended m k s 4 0).words m.words hmE.w0 hmE.w1 hmE.w2 hmE.w3
        rw [e, end_at hs hM (by decide) (by decide)] at h2
        generalize ended m k s 4 0 = A at h2 a1 a2 q1
        simp only [Nat.add_assoc, Nat.reduceAdd] at q1
        have hA : A.sess[k]? = some (endS s 4 0) := by rw [a1]; exact List.getElem?_set_self hk
        have al : A.sess.length = m.sess.length := by rw [a1]; exact List.length_set ..
        have e3 : ((k : Int) < (A.sess.length : Int)) = True := by rw [al]; exact e2
        have d3 : decide ((A.sess.length : Int) ≤ (k : Int)) = false := by rw [al]; exact d2
        have c0 : decide (A.clocks.a0 = m.clocks.a0) = true := by rw [a2]; simp
        have c1 : decide (A.clocks.a1 = m.clocks.a1) = true := by rw [a2]; simp
        have c2 : decide (A.clocks.a2 = m.clocks.a2) = true := by rw [a2]; simp
        have c3 : decide (A.clocks.a3 = m.clocks.a3) = true := by rw [a2]; simp
        simp only [endS, dropS] at hA
        cases hw : decide (A.words = m.words)
        all_goals
          rw [hw] at q1
          refine sp_of rfl 0 (by rfl) ?_
          delta c4
          simp +contextual -dsimp -implicitDefEqProofs (maxSteps := 5000000) only [haw, h2, hz, hz', hs, e1, e2, e3, d1, d2, d3, hA, dd, q1, c0, c1, c2, c3, go_sem, simprocAttr]
      · have e : driftM m k = (upM m k s (orI s.label x.b), 0) := by unfold driftM; rw [hcur]; simp only [hc, hu, hcl]; rfl
        have hA : (upM m k s (orI s.label x.b)).sess[k]? = some { s with label := orI s.label x.b } := by rw [up_sess]; exact List.getElem?_set_self hk
        have hAM := up_may hs hM hS o1 hcl
        have hAm := sm_up hm (k := k) (l := orI s.label x.b) hs
        have qn := s_needs (i + 2) true _ hAm k
        have hn0 : needsM (upM m k s (orI s.label x.b)) k = (false, 0) := by
          rw [needs_on (cur_on hA hAM hst hp hi) hc]
          simp only [o3]; rfl
        have q1 := fun p => s_sameArena (i + 22) true p (upM m k s (orI s.label x.b)).words m.words hAm.w0 hAm.w1 hAm.w2 hAm.w3
        have hsm := hm.s s (List.mem_of_getElem? hs)
        have q2 := fun p q => s_sameReads (i + 23) p false q false s.reads s.reads (by have := hsm.br; simp only [BB]; omega)
        rw [up_words] at q1
        have a1 := up_sess (m := m) (k := k) (s := s) (l := orI s.label x.b)
        have a2 := up_clocks (m := m) (k := k) (s := s) (l := orI s.label x.b)
        have a3 := up_words (m := m) (k := k) (s := s) (l := orI s.label x.b)
        rw [hn0] at qn
        rw [e] at h2
        generalize upM m k s (orI s.label x.b) = A at h2 a1 a2 a3 hA qn q1
        have al : A.sess.length = m.sess.length := by rw [a1]; exact List.length_set ..
        have e3 : ((k : Int) < (A.sess.length : Int)) = True := by rw [al]; exact e2
        have d3 : decide ((A.sess.length : Int) ≤ (k : Int)) = false := by rw [al]; exact d2
        have o5 := o4 hu
        have o6 : decide (orI (orI s.label x.b) s.clear = s.clear) = true := hcl
        simp only [Nat.add_assoc, Nat.reduceAdd, decide_true, eM, cM, eWs, a2, a3] at qn q1 q2
        generalize orI s.label x.b = l at *
        refine sp_of rfl 0 (by rfl) ?_
        delta c4
        simp +contextual -dsimp -implicitDefEqProofs (maxSteps := 5000000) only [haw, h2, hz, hz', hs, e1, e2, e3, d1, d2, d3, hA, dd, q1, q2, qn, a2, a3, z0, o2, o5, o6, go_sem, simprocAttr]
    · have e : driftM m k = (zeroM, 1400) := by unfold driftM; rw [hcur]; simp only [hc, hu]; rfl
      rw [e, zero_o] at h2
      refine sp_of rfl 0 (by rfl) ?_
      delta c4
      simp +contextual -dsimp -implicitDefEqProofs (maxSteps := 5000000) only [haw, h2, hz, hz', go_sem, simprocAttr]
end Ve
