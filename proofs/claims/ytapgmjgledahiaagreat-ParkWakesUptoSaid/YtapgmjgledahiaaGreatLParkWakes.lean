/- The statement ParkWakes. -/
import Derived.Test.YtapgmjgledahiaaGreatS44
import Derived.Test.YtapgmjgledahiaaGreatS37
import Derived.Test.YtapgmjgledahiaaGreatS20
set_option linter.all false
set_option linter.unusedSectionVars false
namespace Ve
open Go Ve.Ab
set_option maxHeartbeats 16000000
set_option maxRecDepth 20000
theorem u_ParkWakes (i : Nat) (m : TMach) (hm : SmM m) (at_ : Int) (haw : pureOf (Lv ctx (i + 23)) 21 [] = some (bV true)) : pureOf (Lv ctx (i + 24)) 4 [eM true m, iV at_] = some (bV true) := by
  have hz := w_zero (i + 20) true false
  have hz' := w_zero (i + 20) false false
  have h2 := s_park (i + 1) true m hm at_
  simp only [Nat.add_assoc, Nat.reduceAdd] at hz hz' h2
  have none : parkM m at_ = (zeroM, 2200) → pureOf (Lv ctx (i + 24)) 4 [eM true m, iV at_] = some (bV true) := by
    intro h
    rw [h, zero_o] at h2
    refine sp_of rfl 0 (by rfl) ?_
    delta c4
    simp +contextual -dsimp -implicitDefEqProofs (maxSteps := 5000000) only [haw, h2, hz, hz', go_sem, simprocAttr]
  have dd : ∀ n : Int, decide (n = n) = true := fun n => by simp
  cases at_cases m at_ with
  | no h => exact none (park_none (cur_no h) (curS_no h))
  | off k s e0 hs hM hS hst =>
    subst e0
    by_cases h5 : s.step = 5
    · have hk := get_lt hs
      have e1 : (0 ≤ (k : Int)) = True := by simp
      have e2 : ((k : Int) < (m.sess.length : Int)) = True := by simpa using hk
      have d1 : decide ((k : Int) < 0) = false := by simp
      have d2 : decide ((m.sess.length : Int) ≤ (k : Int)) = false := by simp; try omega
      have hsm := hm.s s (List.mem_of_getElem? hs)
      have qg := fun a p => r_changed (i + 18) a a a a false false false false m.words.a0 m.words.a1 m.words.a2 m.words.a3 hm.w0 hm.w1 hm.w2 hm.w3 p false s.reads (by have := hsm.br; simp only [BB]; omega)
      simp only [show (⟨m.words.a0, m.words.a1, m.words.a2, m.words.a3⟩ : A4 (List TWord)) = m.words from rfl, changed_may hM hS, Nat.add_assoc, Nat.reduceAdd] at qg
      cases hg : s.reads.any (chgR m.words)
      · have hg' : (changedM m.words s.reads).1 = false := by rw [changed_may hM hS]; exact hg
        have q1 := fun p q => s_sameMachine (i + 20) p q m m hm
        rw [park_stay (cur_off hs hM hst) (curS_on hs hM h5) hg'] at h2
        rw [hg] at qg
        simp only [Nat.add_assoc, Nat.reduceAdd, decide_true] at q1
        refine sp_of rfl 0 (by rfl) ?_
        delta c4
        simp +contextual -dsimp -implicitDefEqProofs (maxSteps := 5000000) only [haw, h2, hz, hz', hs, e1, e2, d1, d2, dd, qg, q1, h5, go_sem, simprocAttr]
      · have hg' : (changedM m.words s.reads).1 = true := by rw [changed_may hM hS]; exact hg
        have a1 := anew_sess (m := m) (k := k) (s := s) 5
        rw [park_wake (cur_off hs hM hst) (curS_on hs hM h5) hg', again_at hs hM (.inr rfl)] at h2
        generalize anew m k s 5 = A at h2 a1
        have hA : A.sess[k]? = some (againS s) := by rw [a1]; exact List.getElem?_set_self hk
        have al : A.sess.length = m.sess.length := by rw [a1]; exact List.length_set ..
        have e3 : ((k : Int) < (A.sess.length : Int)) = True := by rw [al]; exact e2
        have d3 : decide ((A.sess.length : Int) ≤ (k : Int)) = false := by rw [al]; exact d2
        simp only [againS, dropS] at hA
        rw [hg] at qg
        refine sp_of rfl 0 (by rfl) ?_
        delta c4
        simp +contextual -dsimp -implicitDefEqProofs (maxSteps := 5000000) only [haw, h2, hz, hz', hs, e1, e2, e3, d1, d2, d3, hA, dd, qg, h5, go_sem, simprocAttr]
    · exact none (park_none (cur_off hs hM hst) (curS_off hs hM h5))
  | fin k s e0 hs hM hS hst hp =>
    subst e0
    exact none (park_none (cur_fin hs hM hst hp) (curS_off hs hM (by omega)))
  | on k n s x e0 hs hM hS hst hp hn hi =>
    subst e0
    have hcur := cur_on hs hM hst hp hi
    by_cases hc : x.code = 5
    · have hk := get_lt hs
      have e1 : (0 ≤ (k : Int)) = True := by simp
      have e2 : ((k : Int) < (m.sess.length : Int)) = True := by simpa using hk
      have d1 : decide ((k : Int) < 0) = false := by simp
      have d2 : decide ((m.sess.length : Int) ≤ (k : Int)) = false := by simp; try omega
      have hsm := hm.s s (List.mem_of_getElem? hs)
      have q1 := fun p q => s_sameArena (i + 21) p q m.words m.words hm.w0 hm.w1 hm.w2 hm.w3
      have q2 := fun p q => s_sameReads (i + 22) p false q false s.reads s.reads (by have := hsm.br; simp only [BB]; omega)
      simp only [Nat.add_assoc, Nat.reduceAdd, decide_true] at q1 q2
      rw [park_on hcur hc] at h2
      generalize ha : tellM (setS m k { s with writes := [], at_ := 0, step := 5 }) ⟨s.id, s.label, 4, s.reads.length⟩ = A at h2
      have a1 : A.sess = m.sess.set k { s with writes := [], at_ := 0, step := 5 } := by rw [← ha, tell_sess]; rfl
      have a3 : A.words = m.words := by rw [← ha, tell_words]; rfl
      clear ha
      have hA : A.sess[k]? = some { s with writes := [], at_ := 0, step := 5 } := by rw [a1]; exact List.getElem?_set_self hk
      have al : A.sess.length = m.sess.length := by rw [a1]; exact List.length_set ..
      have e3 : ((k : Int) < (A.sess.length : Int)) = True := by rw [al]; exact e2
      have d3 : decide ((A.sess.length : Int) ≤ (k : Int)) = false := by rw [al]; exact d2
      refine sp_of rfl 0 (by rfl) ?_
      delta c4
      simp +contextual -dsimp -implicitDefEqProofs (maxSteps := 5000000) only [haw, h2, hz, hz', hs, e1, e2, e3, d1, d2, d3, hA, dd, a3, q1, q2, hst, go_sem, simprocAttr]
    · exact none (park_no hcur hc)
end Ve
