/- The statement CheckGood. -/
import Derived.Test.YtjllmdplakoanaaGreatS41
import Derived.Test.YtjllmdplakoanaaGreatS37
import Derived.Test.YtjllmdplakoanaaGreatPL12
set_option linter.all false
set_option linter.unusedSectionVars false
namespace Ve
open Go Ve.Ab
set_option maxHeartbeats 16000000
set_option maxRecDepth 20000
theorem u_CheckGood (i : Nat) (m : TMach) (hm : SmM m) (at_ : Int) (haw : pureOf (Lv ctx (i + 23)) 29 [] = some (bV true)) : pureOf (Lv ctx (i + 24)) 10 [eM true m, iV at_] = some (bV true) := by
  have hz := w_zero (i + 20) true false
  have hz' := w_zero (i + 20) false false
  have h2 := s_check (i + 1) true m hm at_
  simp only [Nat.add_assoc, Nat.reduceAdd] at hz hz' h2
  rcases curS_cases m at_ 3 with ⟨h, h'⟩ | ⟨k, s, rfl, hs, hM, hS, hst, h, h'⟩ | ⟨k, s, rfl, hs, hM, hS, hst, h, h'⟩
  case inr.inr =>
    have hk := get_lt hs
    have e1 : (0 ≤ (k : Int)) = True := by simp
    have e2 : ((k : Int) < (m.sess.length : Int)) = True := by simpa using hk
    have d1 : decide ((k : Int) < 0) = false := by simp
    have d2 : decide ((m.sess.length : Int) ≤ (k : Int)) = false := by simp; try omega
    have dd : ∀ n : Int, decide (n = n) = true := fun n => by simp
    have hsm := hm.s s (List.mem_of_getElem? hs)
    have hg0 := good_may hM hS
    have qg := fun a p => r_good (i + 18) a a a a false false false false m.words.a0 m.words.a1 m.words.a2 m.words.a3 hm.w0 hm.w1 hm.w2 hm.w3 p false s.reads (by have := hsm.br; simp only [BB]; omega) s.id
    simp only [show (⟨m.words.a0, m.words.a1, m.words.a2, m.words.a3⟩ : A4 (List TWord)) = m.words from rfl, hg0, Nat.add_assoc, Nat.reduceAdd] at qg
    cases hg : s.reads.all (goodR m.words s.id)
    · have hg' : (goodM m.words s.reads s.id).1 = false := by rw [hg0]; exact hg
      have a1 := anew_sess (m := m) (k := k) (s := s) 3
      have a2 := anew_clocks (m := m) (k := k) (s := s) 3
      rw [check_no h' hg', again_at hs hM (.inl rfl)] at h2
      generalize anew m k s 3 = A at h2 a1 a2
      have hA : A.sess[k]? = some (againS s) := by rw [a1]; exact List.getElem?_set_self hk
      have al : A.sess.length = m.sess.length := by rw [a1]; exact List.length_set ..
      have e3 : ((k : Int) < (A.sess.length : Int)) = True := by rw [al]; exact e2
      have d3 : decide ((A.sess.length : Int) ≤ (k : Int)) = false := by rw [al]; exact d2
      simp only [againS, dropS] at hA
      rw [hg] at qg
      refine sp_of rfl 0 (by rfl) ?_
      delta c10
      simp +contextual -dsimp -implicitDefEqProofs (maxSteps := 5000000) only [haw, h2, hz, hz', hs, e1, e2, e3, d1, d2, d3, hA, dd, qg, a2, go_sem, simprocAttr]
    · have hg' : (goodM m.words s.reads s.id).1 = true := by rw [hg0]; exact hg
      rw [hg] at qg
      by_cases hw : s.writes = []
      · have a1 := ended_sess (m := m) (k := k) (s := s) 1 0
        have a2 := ended_clocks (m := m) (k := k) (s := s) 1 0
        rw [check_end h' hg' hw, end_at hs hM (by decide) (by decide)] at h2
        generalize ended m k s 1 0 = A at h2 a1 a2
        have hA : A.sess[k]? = some (endS s 1 0) := by rw [a1]; exact List.getElem?_set_self hk
        have al : A.sess.length = m.sess.length := by rw [a1]; exact List.length_set ..
        have e3 : ((k : Int) < (A.sess.length : Int)) = True := by rw [al]; exact e2
        have d3 : decide ((A.sess.length : Int) ≤ (k : Int)) = false := by rw [al]; exact d2
        have z1 : decide ((s.writes.length : Int) = 0) = true := by rw [hw]; rfl
        simp only [endS, dropS] at hA
        refine sp_of rfl 0 (by rfl) ?_
        delta c10
        simp +contextual -dsimp -implicitDefEqProofs (maxSteps := 5000000) only [haw, h2, hz, hz', hs, e1, e2, e3, d1, d2, d3, hA, dd, qg, a2, z1, go_sem, simprocAttr]
      · have q1 := fun p q => s_sameArena (i + 21) p q m.words m.words hm.w0 hm.w1 hm.w2 hm.w3
        have q2 := fun p q => s_sameReads (i + 22) p false q false s.reads s.reads (by have := hsm.br; simp only [BB]; omega)
        have q3 := fun p q => s_sameWrites (i + 22) p false q false s.writes s.writes (by have := hsm.bw; simp only [BB]; omega)
        simp only [Nat.add_assoc, Nat.reduceAdd, decide_true] at q1 q2 q3
        rw [check_ok h' hg' hw] at h2
        generalize ha : setS m ((k : Nat) : Int).toNat { s with at_ := 0, step := 4 } = A at h2
        have a1 : A.sess = m.sess.set k { s with at_ := 0, step := 4 } := by rw [← ha]; rfl
        have a2 : A.clocks = m.clocks := by rw [← ha]; rfl
        have a3 : A.words = m.words := by rw [← ha]; rfl
        clear ha
        have hA : A.sess[k]? = some { s with at_ := 0, step := 4 } := by rw [a1]; exact List.getElem?_set_self hk
        have al : A.sess.length = m.sess.length := by rw [a1]; exact List.length_set ..
        have e3 : ((k : Int) < (A.sess.length : Int)) = True := by rw [al]; exact e2
        have d3 : decide ((A.sess.length : Int) ≤ (k : Int)) = false := by rw [al]; exact d2
        have z1 : decide ((s.writes.length : Int) = 0) = false := by
          have := List.length_pos_iff.2 hw
          simp; omega
        refine sp_of rfl 0 (by rfl) ?_
        delta c10
        simp +contextual -dsimp -implicitDefEqProofs (maxSteps := 5000000) only [haw, h2, hz, hz', hs, e1, e2, e3, d1, d2, d3, hA, dd, qg, a2, a3, z1, q1, q2, q3, go_sem, simprocAttr]
  all_goals
    rw [check_none h', zero_o] at h2
    refine sp_of rfl 0 (by rfl) ?_
    delta c10
    simp +contextual -dsimp -implicitDefEqProofs (maxSteps := 5000000) only [haw, h2, hz, hz', go_sem, simprocAttr]
end Ve
