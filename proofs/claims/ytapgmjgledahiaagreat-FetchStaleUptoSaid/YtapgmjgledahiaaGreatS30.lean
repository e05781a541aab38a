/- The reference's stamping, checking. -/
import Derived.Test.YtapgmjgledahiaaGreatS27
import Derived.Test.YtapgmjgledahiaaGreatS22
set_option linter.all false
set_option linter.unusedSectionVars false
namespace Ve
open Go Ve.Ab
set_option maxHeartbeats 16000000
set_option maxRecDepth 10000
/-- at a step, or not -/
theorem curS_cases (m : TMach) (at_ st : Int) : (hereM m at_ = false ∧ curS m at_ st = none) ∨ (∃ (k : Nat) (s : TSess), at_ = (k : Nat) ∧ m.sess[k]? = some s ∧ MayP m ∧ SP m.words s ∧ s.step ≠ st ∧ hereM m at_ = true ∧ curS m at_ st = none) ∨ ∃ (k : Nat) (s : TSess), at_ = (k : Nat) ∧ m.sess[k]? = some s ∧ MayP m ∧ SP m.words s ∧ s.step = st ∧ hereM m at_ = true ∧ curS m at_ st = some s := by
  rcases here_cases m at_ with h | ⟨k, s, e, hs, hM, hS⟩
  · exact .inl ⟨h, curS_no h⟩
  · subst e
    by_cases hst : s.step = st
    · exact .inr (.inr ⟨k, s, rfl, hs, hM, hS, hst, here_k hs hM, curS_on hs hM hst⟩)
    · exact .inr (.inl ⟨k, s, rfl, hs, hM, hS, hst, here_k hs hM, curS_off hs hM hst⟩)
theorem stamp_none {m : TMach} {at_ : Int} (h : curS m at_ 2 = none) : stampM m at_ = (zeroM, 1900) := by unfold stampM; rw [h]
theorem stamp_end {m : TMach} {at_ : Int} {s : TSess} (h : curS m at_ 2 = some s) (hc : m.ceil ≤ m.clocks.get s.label) : stampM m at_ = endM m at_ 5 0 := by unfold stampM; rw [h]; simp only [hc, if_true]
theorem stamp_ok {m : TMach} {at_ : Int} {s : TSess} (h : curS m at_ 2 = some s) (hc : ¬ m.ceil ≤ m.clocks.get s.label) : stampM m at_ = (setS { m with clocks := m.clocks.set s.label (m.clocks.get s.label + 1) } at_.toNat { s with stamp := m.clocks.get s.label + 1, step := 3 }, 0) := by unfold stampM; rw [h]; simp only [hc, if_false]
theorem clocks_may {m : TMach} (hM : MayP m) : m.clocks.all (fun x => inR x 65535) = true := by
  have h1 := hM.clocks
  have h2 := inR_le.1 hM.ceil
  simp only [A4.all, Bool.and_eq_true, inR_le] at h1 ⊢
  omega
theorem next_end {m : TMach} (hM : MayP m) {l : Int} (hl : inR l 3 = true) (hc : m.ceil ≤ m.clocks.get l) : nextC m.clocks l m.ceil = (zero4, 0, 501) := by
  unfold nextC; rw [clocks_may hM, hM.ceil, hl]; simp only [Bool.and_self, if_true, hc]
theorem next_ok {m : TMach} (hM : MayP m) {l : Int} (hl : inR l 3 = true) (hc : ¬ m.ceil ≤ m.clocks.get l) : nextC m.clocks l m.ceil = (m.clocks.set l (m.clocks.get l + 1), m.clocks.get l + 1, 0) := by
  unfold nextC; rw [clocks_may hM, hM.ceil, hl]; simp only [Bool.and_self, if_true, hc, if_false]
theorem r_stamp (i : Nat) (pf : Bool) (m : TMach) (hm : SmM m) (at_ : Int) : pureOf (Lv ctx (i + 10)) 59 [eM pf m, iV at_] = some (.tup [oM (stampM m at_).1, iV (stampM m at_).2]) := by
  have qh := r_here (i + 1) pf m at_ hm
  have qc := r_copy (i + 7) pf m hm
  have qe := r_end (i + 0) pf m hm at_ 5 0
  rcases curS_cases m at_ 2 with ⟨h, h'⟩ | ⟨k, s, rfl, hs, hM, hS, hst, h, h'⟩ | ⟨k, s, rfl, hs, hM, hS, hst, h, h'⟩
  · rw [stamp_none h', zero_o]
    rw [h] at qh
    simp only [Nat.add_assoc, Nat.reduceAdd] at qh
    refine sp_of rfl 0 (by rfl) ?_
    delta c59
    cases pf <;> simp +contextual -dsimp -implicitDefEqProofs (maxSteps := 5000000) only [qh, go_sem, simprocAttr]
  all_goals
    rw [h] at qh
    have hk := get_lt hs
    have e1 : (0 ≤ (k : Int)) = True := by simp
    have e2 : ((k : Int) < (m.sess.length : Int)) = True := by simpa using hk
    have e3 : ∀ x, ((m.sess.map oS).set k x)[k]? = some x := fun x => List.getElem?_set_self (by simpa using hk)
    have e4 : ∀ x y, ((m.sess.map oS).set k x).set k y = (m.sess.map oS).set k y := fun x y => List.set_set ..
  · rw [stamp_none h', zero_o]
    have z0 : decide (s.step = 2) = false := by simpa using hst
    simp only [Nat.add_assoc, Nat.reduceAdd] at qh
    refine sp_of rfl 0 (by rfl) ?_
    delta c59
    cases pf <;> simp +contextual -dsimp -implicitDefEqProofs (maxSteps := 5000000) only [qh, hs, e1, e2, z0, go_sem, simprocAttr]
  · have z0 : decide (s.step = 2) = true := by simpa using hst
    have qn := r_next (i + 6) m.clocks.a0 m.clocks.a1 m.clocks.a2 m.clocks.a3 s.label m.ceil
    rw [show (⟨m.clocks.a0, m.clocks.a1, m.clocks.a2, m.clocks.a3⟩ : A4 Int) = m.clocks from rfl] at qn
    by_cases hc : m.ceil ≤ m.clocks.get s.label
    · rw [stamp_end h' hc]
      rw [next_end hM hS.label hc] at qn
      simp only [Nat.add_assoc, Nat.reduceAdd, e4, zero4] at qh qe qn
      generalize endM m k 5 0 = r at qe ⊢
      refine sp_of rfl 0 (by rfl) ?_
      delta c59
      cases pf <;> simp +contextual -dsimp -implicitDefEqProofs (maxSteps := 5000000) only [qh, qn, qe, hs, e1, e2, z0, go_sem, simprocAttr]
    · rw [stamp_ok h' hc]
      rw [next_ok hM hS.label hc] at qn
      generalize m.clocks.set s.label (m.clocks.get s.label + 1) = cs at qn ⊢
      generalize m.clocks.get s.label + 1 = sp at qn ⊢
      simp only [Nat.add_assoc, Nat.reduceAdd, e4] at qh qc qn
      simp only [setS, Int.toNat_natCast, oM, cO, oWs, oSs, oEs, List.map_set, oS]
      refine sp_of rfl 0 (by rfl) ?_
      delta c59
      cases pf <;> simp +contextual -dsimp -implicitDefEqProofs (maxSteps := 5000000) only [qh, qn, qc, hs, e1, e2, e3, e4, z0, List.length_set, hk, go_sem, simprocAttr]
theorem check_none {m : TMach} {at_ : Int} (h : curS m at_ 3 = none) : checkM m at_ = (zeroM, 2000) := by unfold checkM; rw [h]
theorem check_no {m : TMach} {at_ : Int} {s : TSess} (h : curS m at_ 3 = some s) (hg : (goodM m.words s.reads s.id).1 = false) : checkM m at_ = againM m at_ 3 := by unfold checkM; rw [h]; simp only [hg, Bool.false_eq_true, if_false]
theorem check_end {m : TMach} {at_ : Int} {s : TSess} (h : curS m at_ 3 = some s) (hg : (goodM m.words s.reads s.id).1 = true) (hw : s.writes = []) : checkM m at_ = endM m at_ 1 0 := by unfold checkM; rw [h]; simp only [hg, if_true, hw]
theorem check_ok {m : TMach} {at_ : Int} {s : TSess} (h : curS m at_ 3 = some s) (hg : (goodM m.words s.reads s.id).1 = true) (hw : ¬ s.writes = []) : checkM m at_ = (setS m at_.toNat { s with at_ := 0, step := 4 }, 0) := by unfold checkM; rw [h]; simp only [hg, if_true, hw, if_false]
theorem r_check (i : Nat) (pf : Bool) (m : TMach) (hm : SmM m) (at_ : Int) : pureOf (Lv ctx (i + 10)) 60 [eM pf m, iV at_] = some (.tup [oM (checkM m at_).1, iV (checkM m at_).2]) := by
  have qh := r_here (i + 1) pf m at_ hm
  have qc := r_copy (i + 7) pf m hm
  have qe := r_end (i + 0) pf m hm at_ 1 0
  have qa := r_again (i + 0) pf m hm at_ 3
  rcases curS_cases m at_ 3 with ⟨h, h'⟩ | ⟨k, s, rfl, hs, hM, hS, hst, h, h'⟩ | ⟨k, s, rfl, hs, hM, hS, hst, h, h'⟩
  · rw [check_none h', zero_o]
    rw [h] at qh
    simp only [Nat.add_assoc, Nat.reduceAdd] at qh
    refine sp_of rfl 0 (by rfl) ?_
    delta c60
    cases pf <;> simp +contextual -dsimp -implicitDefEqProofs (maxSteps := 5000000) only [qh, go_sem, simprocAttr]
  all_goals
    rw [h] at qh
    have hk := get_lt hs
    have e1 : (0 ≤ (k : Int)) = True := by simp
    have e2 : ((k : Int) < (m.sess.length : Int)) = True := by simpa using hk
    have e3 : ∀ x, ((m.sess.map oS).set k x)[k]? = some x := fun x => List.getElem?_set_self (by simpa using hk)
    have e4 : ∀ x y, ((m.sess.map oS).set k x).set k y = (m.sess.map oS).set k y := fun x y => List.set_set ..
  · rw [check_none h', zero_o]
    have z0 : decide (s.step = 3) = false := by simpa using hst
    simp only [Nat.add_assoc, Nat.reduceAdd] at qh
    refine sp_of rfl 0 (by rfl) ?_
    delta c60
    cases pf <;> simp +contextual -dsimp -implicitDefEqProofs (maxSteps := 5000000) only [qh, hs, e1, e2, z0, go_sem, simprocAttr]
  · have z0 : decide (s.step = 3) = true := by simpa using hst
    have hsm := hm.s s (List.mem_of_getElem? hs)
    have qg := r_good (i + 4) pf pf pf pf false false false false m.words.a0 m.words.a1 m.words.a2 m.words.a3 hm.w0 hm.w1 hm.w2 hm.w3 pf false s.reads (by have := hsm.br; simp only [BB]; omega) s.id
    rw [show (⟨m.words.a0, m.words.a1, m.words.a2, m.words.a3⟩ : A4 (List TWord)) = m.words from rfl] at qg
    cases hg : (goodM m.words s.reads s.id).1
    · rw [check_no h' hg]
      rw [hg] at qg
      simp only [Nat.add_assoc, Nat.reduceAdd] at qh qa qg
      generalize againM m k 3 = r at qa ⊢
      refine sp_of rfl 0 (by rfl) ?_
      delta c60
      cases pf <;> simp +contextual -dsimp -implicitDefEqProofs (maxSteps := 5000000) only [qh, qg, qa, hs, e1, e2, z0, go_sem, simprocAttr]
    · rw [hg] at qg
      by_cases hw : s.writes = []
      · rw [check_end h' hg hw]
        have z1 : decide ((s.writes.length : Int) = 0) = true := by rw [hw]; rfl
        simp only [Nat.add_assoc, Nat.reduceAdd] at qh qe qg
        generalize endM m k 1 0 = r at qe ⊢
        refine sp_of rfl 0 (by rfl) ?_
        delta c60
        cases pf <;> simp +contextual -dsimp -implicitDefEqProofs (maxSteps := 5000000) only [qh, qg, qe, hs, e1, e2, z0, z1, go_sem, simprocAttr]
      · rw [check_ok h' hg hw]
        have z1 : decide ((s.writes.length : Int) = 0) = false := by
          have := List.length_pos_iff.2 hw
          simp; omega
        simp only [Nat.add_assoc, Nat.reduceAdd] at qh qc qg
        simp only [setS, Int.toNat_natCast, oM, cO, oWs, oSs, oEs, List.map_set, oS]
        refine sp_of rfl 0 (by rfl) ?_
        delta c60
        cases pf <;> simp +contextual -dsimp -implicitDefEqProofs (maxSteps := 5000000) only [qh, qg, qc, hs, e1, e2, e3, e4, z0, z1, List.length_set, hk, go_sem, simprocAttr]
end Ve
