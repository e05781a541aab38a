/- The reference's steps. -/
import Derived.Test.YtapgmjgledahiaaGreatS24
import Derived.Test.YtapgmjgledahiaaGreatVeP
set_option linter.all false
set_option linter.unusedSectionVars false
namespace Ve
open Go Ve.Ab
set_option maxHeartbeats 16000000
set_option maxRecDepth 10000

theorem r_running (i : Nat) (pf : Bool) (m : TMach) (at_ : Int) (v : Int) (h : ∃ k s, at_ = (k : Nat) ∧ m.sess[k]? = some s ∧ SP m.words s ∧ ((s.step ≠ 0 ∧ v = -1) ∨ (s.step = 0 ∧ s.pc = (s.prog.length : Int) ∧ v = -1) ∨ (s.step = 0 ∧ ∃ n x, s.pc = (n : Nat) ∧ s.prog[n]? = some x ∧ v = x.code))) : pureOf (Lv ctx (i + 1)) 44 [eM pf m, iV at_] = some (iV v) := by
  obtain ⟨k, s, rfl, hs, hS, h⟩ := h
  have hk := get_lt hs
  have e1 : (0 ≤ (k : Int)) = True := by simp
  have e2 : ((k : Int) < (m.sess.length : Int)) = True := by simpa using hk
  rcases h with ⟨hst, rfl⟩ | ⟨hst, hp, rfl⟩ | ⟨hst, n, x, hp, hi, rfl⟩
  · have z0 : decide (s.step = 0) = false := by simpa using hst
    refine sp_of rfl 0 (by rfl) ?_
    delta c44
    cases pf <;> simp +contextual -dsimp -implicitDefEqProofs (maxSteps := 5000000) only [hs, e1, e2, z0, go_sem, simprocAttr]
  · have z0 : decide (s.step = 0) = true := by simpa using hst
    have z1 : decide ((s.prog.length : Int) ≤ (s.prog.length : Int)) = true := by simp
    refine sp_of rfl 0 (by rfl) ?_
    delta c44
    cases pf <;> simp +contextual -dsimp -implicitDefEqProofs (maxSteps := 5000000) only [hs, e1, e2, z0, hp, z1, go_sem, simprocAttr]
  · have hn := get_lt hi
    have p1 : (0 ≤ (n : Int)) = True := by simp
    have p2 : ((n : Int) < (s.prog.length : Int)) = True := by simpa using hn
    have p3 : decide ((s.prog.length : Int) ≤ (n : Int)) = false := by simp; omega
    have z0 : decide (s.step = 0) = true := by simpa using hst
    refine sp_of rfl 0 (by rfl) ?_
    delta c44
    cases pf <;> simp +contextual -dsimp -implicitDefEqProofs (maxSteps := 5000000) only [hs, e1, e2, z0, hp, p1, p2, p3, hi, go_sem, simprocAttr]

theorem needs_no {m : TMach} {at_ : Int} (h : curI m at_ = none) : needsM m at_ = (false, 1400) := by unfold needsM; rw [h]
theorem needs_code {m : TMach} {at_ : Int} {s : TSess} {x : TInst} (h : curI m at_ = some (s, x)) (hc : ¬ x.code = 2) : needsM m at_ = (false, 1400) := by unfold needsM; rw [h]; simp only [hc, if_false]
theorem needs_on {m : TMach} {at_ : Int} {s : TSess} {x : TInst} (h : curI m at_ = some (s, x)) (hc : x.code = 2) : needsM m at_ = (!under x.b s.label, 0) := by unfold needsM; rw [h]; simp only [hc, if_true]

theorem r_needs (i : Nat) (pf : Bool) (m : TMach) (hm : SmM m) (at_ : Int) : pureOf (Lv ctx (i + 9)) 66 [eM pf m, iV at_] = some (.tup [bV (needsM m at_).1, iV (needsM m at_).2]) := by
  have qr := fun v h => r_running (i + 7) pf m at_ v h
  have qh := r_here (i + 0) pf m at_ hm
  simp only [Nat.add_assoc, Nat.reduceAdd] at qr qh
  cases at_cases m at_ with
  | no h =>
    have e : needsM m at_ = (false, 1400) := needs_no (cur_no h)
    rw [e]
    refine sp_of rfl 0 (by rfl) ?_
    delta c66
    cases pf <;> simp +contextual -dsimp -implicitDefEqProofs (maxSteps := 5000000) only [qh, h, go_sem, simprocAttr]
  | off k s e0 hs hM hS hst =>
    subst e0
    have e : needsM m k = (false, 1400) := needs_no (cur_off hs hM hst)
    rw [e]
    have hh := here_k hs hM
    have q := qr (-1) ⟨k, s, rfl, hs, hS, .inl ⟨hst, rfl⟩⟩
    refine sp_of rfl 0 (by rfl) ?_
    delta c66
    cases pf <;> simp +contextual -dsimp -implicitDefEqProofs (maxSteps := 5000000) only [qh, hh, q, go_sem, simprocAttr]
  | fin k s e0 hs hM hS hst hp =>
    subst e0
    have e : needsM m k = (false, 1400) := needs_no (cur_fin hs hM hst hp)
    rw [e]
    have hh := here_k hs hM
    have q := qr (-1) ⟨k, s, rfl, hs, hS, .inr (.inl ⟨hst, hp, rfl⟩)⟩
    refine sp_of rfl 0 (by rfl) ?_
    delta c66
    cases pf <;> simp +contextual -dsimp -implicitDefEqProofs (maxSteps := 5000000) only [qh, hh, q, go_sem, simprocAttr]
  | on k n s x e0 hs hM hS hst hp hn hi =>
    subst e0
    have q := qr x.code ⟨k, s, rfl, hs, hS, .inr (.inr ⟨hst, n, x, hp, hi, rfl⟩)⟩
    have hk := get_lt hs
    have e1 : (0 ≤ (k : Int)) = True := by simp
    have e2 : ((k : Int) < (m.sess.length : Int)) = True := by simpa using hk
    have e5 : ∀ x, ((m.sess.map oS).set k x)[k]? = some x := fun x => List.getElem?_set_self (by simpa using hk)
    have e4 : ∀ x y, ((m.sess.map oS).set k x).set k y = (m.sess.map oS).set k y := fun x y => List.set_set ..
    have hh := here_k hs hM
    have p1 : (0 ≤ (n : Int)) = True := by simp
    have p2 : ((n : Int) < (s.prog.length : Int)) = True := by simpa using hn
    have p3 : decide ((s.prog.length : Int) ≤ (n : Int)) = false := by simp; omega
    have z0 : decide (s.step = 0) = true := by simpa using hst
    by_cases hc : x.code = 2
    · have e : needsM m k = (!under x.b s.label, 0) := needs_on (cur_on hs hM hst hp hi) hc
      rw [e]
      have c2 : decide (x.code = 2) = true := by simpa using hc
      refine sp_of rfl 0 (by rfl) ?_
      delta c66
      cases pf <;> simp +contextual -dsimp -implicitDefEqProofs (maxSteps := 5000000) only [qh, hh, q, c2, hs, e1, e2, e4, e5, List.length_set, p1, p2, p3, z0, hp, hi, go_sem, simprocAttr]
    · have e : needsM m k = (false, 1400) := needs_code (cur_on hs hM hst hp hi) hc
      rw [e]
      have c2 : decide (x.code = 2) = false := by simpa using hc
      refine sp_of rfl 0 (by rfl) ?_
      delta c66
      cases pf <;> simp +contextual -dsimp -implicitDefEqProofs (maxSteps := 5000000) only [qh, hh, q, c2, go_sem, simprocAttr]
/-- at no read -/
theorem no_read {m : TMach} {at_ : Int} (h : curI m at_ = none ∨ ∃ s x, curI m at_ = some (s, x) ∧ ¬ x.code = 2) : needsM m at_ = (false, 1400) ∧ driftM m at_ = (zeroM, 1400) ∧ fetchM m at_ = (zeroM, 1500) := by
  rcases h with h | ⟨s, x, h, hc⟩
  · refine ⟨needs_no h, ?_, ?_⟩
    · unfold driftM; rw [h]
    · unfold fetchM; rw [h]
  · refine ⟨needs_code h hc, ?_, ?_⟩
    · unfold driftM; rw [h]; simp only [hc, if_false]
    · unfold fetchM; rw [h]; simp only [hc, if_false]
/-- a session at a read, or none such -/
theorem read_cases (m : TMach) (at_ : Int) : (curI m at_ = none ∨ ∃ s x, curI m at_ = some (s, x) ∧ ¬ x.code = 2) ∨ ∃ (k n : Nat) (s : TSess) (x : TInst), at_ = (k : Nat) ∧ m.sess[k]? = some s ∧ MayP m ∧ SP m.words s ∧ s.step = 0 ∧ s.pc = (n : Int) ∧ n < s.prog.length ∧ s.prog[n]? = some x ∧ x.code = 2 ∧ curI m at_ = some (s, x) := by
  cases at_cases m at_ with
  | no h => exact .inl (.inl (cur_no h))
  | off k s e0 hs hM hS hst => subst e0; exact .inl (.inl (cur_off hs hM hst))
  | fin k s e0 hs hM hS hst hp => subst e0; exact .inl (.inl (cur_fin hs hM hst hp))
  | on k n s x e0 hs hM hS hst hp hn hi =>
    subst e0
    by_cases hc : x.code = 2
    · exact .inr ⟨k, n, s, x, rfl, hs, hM, hS, hst, hp, hn, hi, hc, cur_on hs hM hst hp hi⟩
    · exact .inl (.inr ⟨s, x, cur_on hs hM hst hp hi, hc⟩)
theorem orI_comm (a b : Int) : orI a b = orI b a := by simp only [orI, BitVec.or_comm]
theorem r_drift (i : Nat) (pf : Bool) (m : TMach) (hm : SmM m) (at_ : Int) : pureOf (Lv ctx (i + 10)) 95 [eM pf m, iV at_] = some (.tup [oM (driftM m at_).1, iV (driftM m at_).2]) := by
  have qn := r_needs (i + 0) pf m hm at_
  have qc := r_copy (i + 7) pf m hm
  have qe := r_end (i + 0) pf m hm at_ 4 0
  rcases read_cases m at_ with h | ⟨k, n, s, x, rfl, hs, hM, hS, hst, hp, hn, hi, hc, hcur⟩
  · obtain ⟨g1, g2, _⟩ := no_read h
    rw [g2, zero_o]
    rw [g1] at qn
    simp only [Nat.add_assoc, Nat.reduceAdd] at qn
    refine sp_of rfl 0 (by rfl) ?_
    delta c95
    cases pf <;> simp +contextual -dsimp -implicitDefEqProofs (maxSteps := 5000000) only [qn, go_sem, simprocAttr]
  · have ql := fun l => r_tell (i + 8) m k s hs 2 l
    rw [needs_on hcur hc] at qn
    simp only [Nat.add_assoc, Nat.reduceAdd] at qn qc qe ql
    have hk := get_lt hs
    have e1 : (0 ≤ (k : Int)) = True := by simp
    have e2 : ((k : Int) < (m.sess.length : Int)) = True := by simpa using hk
    have e5 : ∀ x, ((m.sess.map oS).set k x)[k]? = some x := fun x => List.getElem?_set_self (by simpa using hk)
    have e4 : ∀ x y, ((m.sess.map oS).set k x).set k y = (m.sess.map oS).set k y := fun x y => List.set_set ..
    have hh := here_k hs hM
    have p1 : (0 ≤ (n : Int)) = True := by simp
    have p2 : ((n : Int) < (s.prog.length : Int)) = True := by simpa using hn
    have p3 : decide ((s.prog.length : Int) ≤ (n : Int)) = false := by simp; omega
    have z0 : decide (s.step = 0) = true := by simpa using hst
    cases hu : under x.b s.label
    · rw [hu] at qn
      cases hcl : under (orI s.label x.b) s.clear
      · have e : driftM m k = endM m k 4 0 := by unfold driftM; rw [hcur]; simp only [hc, hu, hcl]; rfl
        rw [e]
        refine sp_of rfl 0 (by rfl) ?_
        delta c95
        cases pf <;> simp +contextual -dsimp -implicitDefEqProofs (maxSteps := 5000000) only [qn, qe, hcl, hs, e1, e2, e4, e5, List.length_set, p1, p2, p3, z0, hp, hi, go_sem, simprocAttr]
      · have e : driftM m k = (setS (tellM m ⟨s.id, s.label, 2, orI s.label x.b⟩) k { s with label := orI s.label x.b }, 0) := by unfold driftM; rw [hcur]; simp only [hc, hu, hcl]; rfl
        rw [e]
        simp only [oM, cO, oWs, oSs, oEs, setS, List.map_set, oS, tell_sess, tell_words, tell_clocks, tell_ceil] at ql
        refine sp_of rfl 0 (by rfl) ?_
        delta c95
        cases pf
        · simp +contextual -dsimp -implicitDefEqProofs (maxSteps := 5000000) only [qn, qc, ql, hcl, hs, e1, e2, e4, e5, List.length_set, p1, p2, p3, z0, hp, hi, go_sem, simprocAttr]
          simp only [oM, cO, oWs, oSs, oEs, setS, List.map_set, oS, tell_sess, tell_words, tell_clocks, tell_ceil]
        · simp +contextual -dsimp -implicitDefEqProofs (maxSteps := 5000000) only [qn, qc, ql, hcl, hs, e1, e2, e4, e5, List.length_set, p1, p2, p3, z0, hp, hi, go_sem, simprocAttr]
          simp only [oM, cO, oWs, oSs, oEs, setS, List.map_set, oS, tell_sess, tell_words, tell_clocks, tell_ceil]
    · have e : driftM m k = (zeroM, 1400) := by unfold driftM; rw [hcur]; simp only [hc, hu]; rfl
      rw [e, zero_o]
      rw [hu] at qn
      refine sp_of rfl 0 (by rfl) ?_
      delta c95
      cases pf <;> simp +contextual -dsimp -implicitDefEqProofs (maxSteps := 5000000) only [qn, go_sem, simprocAttr]

end Ve
