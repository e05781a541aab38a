/- The program's parking. -/
import Derived.Test.YtapgmjgledahiaaGreatS43
import Derived.Test.YtapgmjgledahiaaGreatS40
import Derived.Test.YtapgmjgledahiaaGreatS32
import Derived.Test.YtapgmjgledahiaaGreatS42
import Derived.Test.YtapgmjgledahiaaGreatVeP
set_option linter.all false
set_option linter.unusedSectionVars false
namespace Ve
open Go Ve.Ab
set_option maxHeartbeats 16000000
set_option maxRecDepth 10000
theorem s_park (i : Nat) (pf : Bool) (m : TMach) (hm : SmM m) (at_ : Int) : pureOf (Lv ctx (i + 22)) 16 [eM pf m, iV at_] = some (.tup [oM (parkM m at_).1, iV (parkM m at_).2]) := by
  have q1 := s_at1 (i + 0) pf pf false false m hm at_ 5
  have q2 := s_is (i + 0) pf pf m at_ 5 hm
  have qc := s_mcopy (i + 18) pf m hm
  have qa := s_again (i + 0) pf m hm at_ 5
  cases at_cases m at_ with
  | no h =>
    rw [park_none (cur_no h) (curS_no h), zero_o]
    rw [at_no (.inl (cur_no h))] at q1
    rw [curS_no h] at q2
    simp only [Nat.add_assoc, Nat.reduceAdd, Option.isSome_none] at q1 q2
    refine sp_of rfl 0 (by rfl) ?_
    delta c16
    cases pf <;> simp +contextual -dsimp -implicitDefEqProofs (maxSteps := 5000000) only [q1, q2, go_sem, simprocAttr]
  | off k s e0 hs hM hS hst =>
    subst e0
    rw [at_no (.inl (cur_off hs hM hst))] at q1
    by_cases h5 : s.step = 5
    · rw [curS_on hs hM h5] at q2
      have hk := get_lt hs
      have e1 : (0 ≤ (k : Int)) = True := by simp
      have e2 : ((k : Int) < (m.sess.length : Int)) = True := by simpa using hk
      have hsm := hm.s s (List.mem_of_getElem? hs)
      have qg := s_changed (i + (14 - 2)) pf pf m.words s.reads (by have := hsm.br; simp only [BB]; omega)
      cases hg : (changedM m.words s.reads).1
      · rw [park_stay (cur_off hs hM hst) (curS_on hs hM h5) hg]
        rw [hg] at qg
        simp only [Nat.add_assoc, Nat.reduceAdd, Nat.reduceSub, Option.isSome_some] at q1 q2 qc qg
        refine sp_of rfl 0 (by rfl) ?_
        delta c16
        cases pf <;> simp +contextual -dsimp -implicitDefEqProofs (maxSteps := 5000000) only [q1, q2, qg, qc, hs, e1, e2, go_sem, simprocAttr]
      · rw [park_wake (cur_off hs hM hst) (curS_on hs hM h5) hg]
        rw [hg] at qg
        simp only [Nat.add_assoc, Nat.reduceAdd, Nat.reduceSub, Option.isSome_some] at q1 q2 qa qg
        generalize againM m k 5 = r at qa ⊢
        refine sp_of rfl 0 (by rfl) ?_
        delta c16
        cases pf <;> simp +contextual -dsimp -implicitDefEqProofs (maxSteps := 5000000) only [q1, q2, qg, qa, hs, e1, e2, go_sem, simprocAttr]
    · rw [park_none (cur_off hs hM hst) (curS_off hs hM h5), zero_o]
      rw [curS_off hs hM h5] at q2
      simp only [Nat.add_assoc, Nat.reduceAdd, Option.isSome_none] at q1 q2
      refine sp_of rfl 0 (by rfl) ?_
      delta c16
      cases pf <;> simp +contextual -dsimp -implicitDefEqProofs (maxSteps := 5000000) only [q1, q2, go_sem, simprocAttr]
  | fin k s e0 hs hM hS hst hp =>
    subst e0
    have h5 : ¬ s.step = 5 := by omega
    rw [park_none (cur_fin hs hM hst hp) (curS_off hs hM h5), zero_o]
    rw [at_no (.inl (cur_fin hs hM hst hp))] at q1
    rw [curS_off hs hM h5] at q2
    simp only [Nat.add_assoc, Nat.reduceAdd, Option.isSome_none] at q1 q2
    refine sp_of rfl 0 (by rfl) ?_
    delta c16
    cases pf <;> simp +contextual -dsimp -implicitDefEqProofs (maxSteps := 5000000) only [q1, q2, go_sem, simprocAttr]
  | on k n s x e0 hs hM hS hst hp hn hi =>
    subst e0
    have hcur := cur_on hs hM hst hp hi
    by_cases hc : x.code = 5
    · rw [at_on hcur hc] at q1
      rw [park_on hcur hc]
      simp only [Nat.add_assoc, Nat.reduceAdd] at q1 qc
      have hk := get_lt hs
      have e1 : (0 ≤ (k : Int)) = True := by simp
      have e2 : ((k : Int) < (m.sess.length : Int)) = True := by simpa using hk
      have e3 : (m.sess.map oS)[k]? = some (oS s) := by simp [hs]
      have e4 : ∀ x y, ((m.sess.map oS).set k x).set k y = (m.sess.map oS).set k y := fun x y => List.set_set ..
      have e5 : ∀ x, ((m.sess.map oS).set k x)[k]? = some x := fun x => List.getElem?_set_self (by simpa using hk)
      simp only [oS] at e3
      simp only [oM, cO, oWs, oSs, oEs, tellM, setS]
      by_cases htr : m.trace.length < 512
      · have h6 : decide ((m.trace.length : Int) < 512) = true := by simp; omega
        have h7 : (((m.trace.length + 1 : Nat) : Int) * 32 ≤ 140737488355328) = True := by simp; omega
        simp only [htr, if_true, List.map_set, List.map_append, List.map_cons, List.map_nil, oS, oWrs]
        refine sp_of rfl 0 (by rfl) ?_
        delta c16
        cases pf
        all_goals
          simp +contextual -dsimp -implicitDefEqProofs (maxSteps := 5000000) only [q1, qc, hs, e1, e2, e3, e4, e5, List.length_set, hk, go_sem, simprocAttr]
          refine gi_inl rfl 0 ?_
          delta c39
          simp +contextual -dsimp -implicitDefEqProofs (maxSteps := 5000000) only [e1, e2, e3, e4, e5, h6, h7, List.length_set, List.replicate, hk, go_sem, simprocAttr]
      · have h6 : decide ((m.trace.length : Int) < 512) = false := by simp; omega
        simp only [htr, if_false, List.map_set, oS, oWrs, List.map_nil]
        refine sp_of rfl 0 (by rfl) ?_
        delta c16
        cases pf
        all_goals
          simp +contextual -dsimp -implicitDefEqProofs (maxSteps := 5000000) only [q1, qc, hs, e1, e2, e3, e4, e5, List.length_set, hk, go_sem, simprocAttr]
          refine gi_inl rfl 0 ?_
          delta c39
          simp +contextual -dsimp -implicitDefEqProofs (maxSteps := 5000000) only [e1, e2, e3, e4, e5, h6, List.length_set, hk, go_sem, simprocAttr]
    · rw [park_no hcur hc, zero_o]
      have h5 : ¬ s.step = 5 := by omega
      rw [at_no (.inr ⟨s, x, hcur, hc⟩)] at q1
      rw [curS_off hs hM h5] at q2
      simp only [Nat.add_assoc, Nat.reduceAdd, Option.isSome_none] at q1 q2
      refine sp_of rfl 0 (by rfl) ?_
      delta c16
      cases pf <;> simp +contextual -dsimp -implicitDefEqProofs (maxSteps := 5000000) only [q1, q2, go_sem, simprocAttr]
end Ve
