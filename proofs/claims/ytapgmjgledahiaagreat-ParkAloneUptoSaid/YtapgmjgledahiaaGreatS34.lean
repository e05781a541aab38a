/- The reference's steps, all. -/
import Derived.Test.YtapgmjgledahiaaGreatS29
import Derived.Test.YtapgmjgledahiaaGreatS30
import Derived.Test.YtapgmjgledahiaaGreatS31
import Derived.Test.YtapgmjgledahiaaGreatS32
import Derived.Test.YtapgmjgledahiaaGreatS33
set_option linter.all false
set_option linter.unusedSectionVars false
namespace Ve
open Go Ve.Ab
set_option maxHeartbeats 16000000
set_option maxRecDepth 10000

theorem r_run (i : Nat) (pf : Bool) (m : TMach) (hm : SmM m) (k : Nat) (s : TSess) (hs : m.sess[k]? = some s) (hM : MayP m) (hS : SP m.words s) (hst : s.step = 0) : pureOf (Lv ctx (i + 11)) 57 [eM pf m, iV k] = some (.tup [oM (runSM m k s).1, iV (runSM m k s).2]) := by
  have qc := r_copy (i + 8) pf m hm
  have qr := fun v h => r_running (i + 9) pf m k v h
  simp only [Nat.add_assoc, Nat.reduceAdd] at qc qr
  have hk := get_lt hs
  have e1 : (0 ≤ (k : Int)) = True := by simp
  have e2 : ((k : Int) < (m.sess.length : Int)) = True := by simpa using hk
  have e3 : ∀ x, ((m.sess.map oS).set k x)[k]? = some x := fun x => List.getElem?_set_self (by simpa using hk)
  have e4 : ∀ x y, ((m.sess.map oS).set k x).set k y = (m.sess.map oS).set k y := fun x y => List.set_set ..
  have hh := here_k hs hM
  have hAt := at_cases m k
  have hp0 := inR_le.1 hS.pc
  by_cases hfin : s.pc = (s.prog.length : Int)
  · have hlen : s.prog[s.pc.toNat]? = none := by rw [hfin]; simp
    have e : runSM m k s = lastM m k s := by unfold runSM; rw [hlen]
    rw [e]
    have q := qr (-1) ⟨k, s, rfl, hs, hS, .inr (.inl ⟨hst, hfin, rfl⟩)⟩
    have hsm := hm.s s (List.mem_of_getElem? hs)
    have qw := r_writesAt (i + 5) pf false s.writes (by have := hsm.bw; simp only [BB]; omega) s.label
    have qe := r_end (i + 1) pf m hm k 3 0
    simp only [Nat.add_assoc, Nat.reduceAdd] at qw qe
    cases hw : writesAt s.writes s.label
    · have e2' : lastM m k s = endM m k 3 0 := by unfold lastM; rw [hw]; simp only [Bool.false_eq_true, if_false]
      rw [e2']
      rw [hw] at qw
      generalize endM m k 3 0 = r at qe ⊢
      refine sp_of rfl 0 (by rfl) ?_
      delta c57
      cases pf <;> simp +contextual -dsimp -implicitDefEqProofs (maxSteps := 5000000) only [q, qw, qe, hs, e1, e2, go_sem, simprocAttr]
    · rw [hw] at qw
      by_cases hn : s.writes = []
      · have e2' : lastM m k s = (setS m k { s with at_ := 0, step := 3 }, 0) := by unfold lastM; rw [hw]; simp only [hn, if_true, Int.toNat_natCast]
        rw [e2']
        have z1 : decide ((s.writes.length : Int) = 0) = true := by rw [hn]; rfl
        simp only [setS, Int.toNat_natCast, oM, cO, oWs, oSs, oEs, List.map_set, oS]
        refine sp_of rfl 0 (by rfl) ?_
        delta c57
        cases pf <;> simp +contextual -dsimp -implicitDefEqProofs (maxSteps := 5000000) only [q, qc, qw, hs, e1, e2, e3, e4, z1, List.length_set, hk, go_sem, simprocAttr]
      · have e2' : lastM m k s = (setS m k { s with at_ := 0, step := 1 }, 0) := by unfold lastM; rw [hw]; simp only [hn, if_true, if_false, Int.toNat_natCast]
        rw [e2']
        have z1 : decide ((s.writes.length : Int) = 0) = false := by
          have := List.length_pos_iff.2 hn
          simp; omega
        simp only [setS, Int.toNat_natCast, oM, cO, oWs, oSs, oEs, List.map_set, oS]
        refine sp_of rfl 0 (by rfl) ?_
        delta c57
        cases pf <;> simp +contextual -dsimp -implicitDefEqProofs (maxSteps := 5000000) only [q, qc, qw, hs, e1, e2, e3, e4, z1, List.length_set, hk, go_sem, simprocAttr]
  · have hn : s.pc.toNat < s.prog.length := by omega
    obtain ⟨n, hp⟩ : ∃ n : Nat, s.pc = (n : Int) := ⟨s.pc.toNat, by omega⟩
    have hn1 : n < s.prog.length := by omega
    obtain ⟨x, hi⟩ : ∃ x, s.prog[n]? = some x := ⟨s.prog[n], by simp [hn1]⟩
    have hi2 : s.prog[s.pc.toNat]? = some x := by rw [hp]; simpa using hi
    have p1 : (0 ≤ (n : Int)) = True := by simp
    have p2 : ((n : Int) < (s.prog.length : Int)) = True := by simpa using hn1
    have q := qr x.code ⟨k, s, rfl, hs, hS, .inr (.inr ⟨hst, n, x, hp, hi, rfl⟩)⟩
    obtain ⟨hx1, hx2, hx3⟩ := sp_inst hS hi
    have er : runSM m k s = (if x.code = 2 then (if (needsM m k).1 = true then driftM m k else fetchM m k) else if x.code = 3 then storeM m k else if x.code = 5 then parkM m k else if x.code = 6 then endM m k 2 x.a else calcM m k) := by unfold runSM; rw [hi2]
    rw [er]
    have qn := r_needs (i + 1) pf m hm k
    have qd := r_drift (i + 0) pf m hm k
    have qf := r_fetch (i + 0) pf m hm k
    have qs := r_store (i + 1) pf m hm k
    have qk := r_calc (i + 1) pf m hm k
    have qp := r_park (i + 0) pf m hm k
    have qe := r_end (i + 1) pf m hm k 2 x.a
    simp only [Nat.add_assoc, Nat.reduceAdd] at qn qd qf qs qk qp qe
    generalize driftM m k = D at qd ⊢
    generalize fetchM m k = Fe at qf ⊢
    generalize storeM m k = St at qs ⊢
    generalize calcM m k = Ca at qk ⊢
    generalize parkM m k = Pa at qp ⊢
    generalize endM m k 2 x.a = En at qe ⊢
    generalize needsM m k = Ne at qn ⊢
    rcases inst_code hx1 with hc | hc | hc | hc | hc | hc | hc
    · rw [if_neg (by omega), if_neg (by omega), if_neg (by omega), if_neg (by omega)]
      refine sp_of rfl 0 (by rfl) ?_
      delta c57
      cases pf <;> simp +contextual -dsimp -implicitDefEqProofs (maxSteps := 5000000) only [q, qk, hs, e1, e2, hc, go_sem, simprocAttr]
    · rw [if_neg (by omega), if_neg (by omega), if_neg (by omega), if_neg (by omega)]
      refine sp_of rfl 0 (by rfl) ?_
      delta c57
      cases pf <;> simp +contextual -dsimp -implicitDefEqProofs (maxSteps := 5000000) only [q, qk, hs, e1, e2, hc, go_sem, simprocAttr]
    · rw [if_pos hc]
      obtain ⟨Ne1, Ne2⟩ := Ne
      cases Ne1
      · rw [if_neg (by simp)]
        refine sp_of rfl 0 (by rfl) ?_
        delta c57
        cases pf <;> simp +contextual -dsimp -implicitDefEqProofs (maxSteps := 5000000) only [q, qn, qf, hs, e1, e2, hc, go_sem, simprocAttr]
      · rw [if_pos rfl]
        refine sp_of rfl 0 (by rfl) ?_
        delta c57
        cases pf <;> simp +contextual -dsimp -implicitDefEqProofs (maxSteps := 5000000) only [q, qn, qd, hs, e1, e2, hc, go_sem, simprocAttr]
    · rw [if_neg (by omega), if_pos hc]
      refine sp_of rfl 0 (by rfl) ?_
      delta c57
      cases pf <;> simp +contextual -dsimp -implicitDefEqProofs (maxSteps := 5000000) only [q, qs, hs, e1, e2, hc, go_sem, simprocAttr]
    · rw [if_neg (by omega), if_neg (by omega), if_neg (by omega), if_neg (by omega)]
      refine sp_of rfl 0 (by rfl) ?_
      delta c57
      cases pf <;> simp +contextual -dsimp -implicitDefEqProofs (maxSteps := 5000000) only [q, qk, hs, e1, e2, hc, go_sem, simprocAttr]
    · rw [if_neg (by omega), if_neg (by omega), if_pos hc]
      refine sp_of rfl 0 (by rfl) ?_
      delta c57
      cases pf <;> simp +contextual -dsimp -implicitDefEqProofs (maxSteps := 5000000) only [q, qp, hs, e1, e2, hc, go_sem, simprocAttr]
    · rw [if_neg (by omega), if_neg (by omega), if_neg (by omega), if_pos hc]
      refine sp_of rfl 0 (by rfl) ?_
      delta c57
      cases pf <;> simp +contextual -dsimp -implicitDefEqProofs (maxSteps := 5000000) only [q, qe, hs, e1, e2, hc, hp, p1, p2, hi, go_sem, simprocAttr]
theorem step_none {m : TMach} {at_ : Int} (h : hereM m at_ = false) : stepM m at_ = (zeroM, 2300) := by unfold stepM; rw [h]; rfl
theorem step_ok {m : TMach} {k : Nat} {s : TSess} (hs : m.sess[k]? = some s) (hM : MayP m) (h : (stepRaw m k s).2 = 0) : stepM m k = ((stepRaw m k s).1, 0) := by
  unfold stepM; rw [here_k hs hM]; simp only [if_true, Int.toNat_natCast, hs, h]
theorem step_bad {m : TMach} {k : Nat} {s : TSess} (hs : m.sess[k]? = some s) (hM : MayP m) (h : ¬ (stepRaw m k s).2 = 0) : stepM m k = (zeroM, 2300) := by
  unfold stepM; rw [here_k hs hM]; simp only [if_true, Int.toNat_natCast, hs, h, if_false]
theorem r_step (i : Nat) (pf : Bool) (m : TMach) (hm : SmM m) (at_ : Int) : pureOf (Lv ctx (i + 12)) 27 [eM pf m, iV at_] = some (.tup [oM (stepM m at_).1, iV (stepM m at_).2]) := by
  have qh := r_here (i + 3) pf m at_ hm
  have qc := r_copy (i + 9) pf m hm
  simp only [Nat.add_assoc, Nat.reduceAdd] at qh qc
  rcases here_cases m at_ with h | ⟨k, s, rfl, hs, hM, hS⟩
  · rw [step_none h, zero_o]
    rw [h] at qh
    refine sp_of rfl 0 (by rfl) ?_
    delta c27
    cases pf <;> simp +contextual -dsimp -implicitDefEqProofs (maxSteps := 5000000) only [qh, go_sem, simprocAttr]
  · have hh := here_k hs hM
    rw [hh] at qh
    have hk := get_lt hs
    have e1 : (0 ≤ (k : Int)) = True := by simp
    have e2 : ((k : Int) < (m.sess.length : Int)) = True := by simpa using hk
    have e3 : ∀ x, ((m.sess.map oS).set k x)[k]? = some x := fun x => List.getElem?_set_self (by simpa using hk)
    have e4 : ∀ x y, ((m.sess.map oS).set k x).set k y = (m.sess.map oS).set k y := fun x y => List.set_set ..
    have q1 := r_grab (i + 1) pf m hm k
    have q2 := r_stamp (i + 1) pf m hm k
    have q3 := r_check (i + 1) pf m hm k
    have q4 := r_back (i + 1) pf m hm k
    have q5 := r_park (i + 1) pf m hm k
    have hst := inR_le.1 hS.step
    simp only [Nat.add_assoc, Nat.reduceAdd] at q1 q2 q3 q4 q5
    have fin : ∀ (A : TMach × Int), stepRaw m k s = A → ∃ T : TMach × Int, stepM m k = T ∧ (A.2 = 0 ∧ T = (A.1, 0) ∨ ¬ A.2 = 0 ∧ T = (zeroM, 2300)) := by
      intro A hA
      by_cases h0 : A.2 = 0
      · exact ⟨_, step_ok hs hM (by rw [hA]; exact h0), .inl ⟨h0, by rw [hA]⟩⟩
      · exact ⟨_, step_bad hs hM (by rw [hA]; exact h0), .inr ⟨h0, rfl⟩⟩
    obtain h0 | h0 | h0 | h0 | h0 | h0 | h0 : s.step = 0 ∨ s.step = 1 ∨ s.step = 2 ∨ s.step = 3 ∨ s.step = 4 ∨ s.step = 5 ∨ s.step = 6 := by omega
    · have q0 := r_run (i + 0) pf m hm k s hs hM hS h0
      simp only [Nat.add_assoc, Nat.reduceAdd] at q0
      have hA : stepRaw m k s = runSM m k s := by unfold stepRaw; simp only [h0, show ((1 : Int) = 0) = False by decide, show ((2 : Int) = 0) = False by decide, show ((2 : Int) = 1) = False by decide, show ((3 : Int) = 0) = False by decide, show ((3 : Int) = 1) = False by decide, show ((3 : Int) = 2) = False by decide, show ((4 : Int) = 0) = False by decide, show ((4 : Int) = 1) = False by decide, show ((4 : Int) = 2) = False by decide, show ((4 : Int) = 3) = False by decide, show ((5 : Int) = 0) = False by decide, show ((5 : Int) = 1) = False by decide, show ((5 : Int) = 2) = False by decide, show ((5 : Int) = 3) = False by decide, show ((5 : Int) = 4) = False by decide, show ((6 : Int) = 0) = False by decide, show ((6 : Int) = 1) = False by decide, show ((6 : Int) = 2) = False by decide, show ((6 : Int) = 3) = False by decide, show ((6 : Int) = 4) = False by decide, show ((6 : Int) = 5) = False by decide, if_true, if_false]
      obtain ⟨T, hT, hT2⟩ := fin _ hA
      rw [hT]
      clear hT hA fin
      generalize runSM m k s = A at q0 hT2
      rcases hT2 with ⟨ha, rfl⟩ | ⟨ha, rfl⟩
      · have z1 : decide (A.2 = 0) = true := by simpa using ha
        refine sp_of rfl 0 (by rfl) ?_
        delta c27
        cases pf <;> simp +contextual -dsimp -implicitDefEqProofs (maxSteps := 5000000) only [qh, qc, q0, hs, e1, e2, h0, z1, ha, go_sem, simprocAttr]
      · have z1 : decide (A.2 = 0) = false := by simpa using ha
        rw [zero_o]
        refine sp_of rfl 0 (by rfl) ?_
        delta c27
        cases pf <;> simp +contextual -dsimp -implicitDefEqProofs (maxSteps := 5000000) only [qh, qc, q0, hs, e1, e2, h0, z1, go_sem, simprocAttr]
    · have hA : stepRaw m k s = grabM m k := by unfold stepRaw; simp only [h0, show ((1 : Int) = 0) = False by decide, show ((2 : Int) = 0) = False by decide, show ((2 : Int) = 1) = False by decide, show ((3 : Int) = 0) = False by decide, show ((3 : Int) = 1) = False by decide, show ((3 : Int) = 2) = False by decide, show ((4 : Int) = 0) = False by decide, show ((4 : Int) = 1) = False by decide, show ((4 : Int) = 2) = False by decide, show ((4 : Int) = 3) = False by decide, show ((5 : Int) = 0) = False by decide, show ((5 : Int) = 1) = False by decide, show ((5 : Int) = 2) = False by decide, show ((5 : Int) = 3) = False by decide, show ((5 : Int) = 4) = False by decide, show ((6 : Int) = 0) = False by decide, show ((6 : Int) = 1) = False by decide, show ((6 : Int) = 2) = False by decide, show ((6 : Int) = 3) = False by decide, show ((6 : Int) = 4) = False by decide, show ((6 : Int) = 5) = False by decide, if_true, if_false]
      obtain ⟨T, hT, hT2⟩ := fin _ hA
      rw [hT]
      clear hT hA fin
      generalize grabM m k = A at q1 hT2
      rcases hT2 with ⟨ha, rfl⟩ | ⟨ha, rfl⟩
      · have z1 : decide (A.2 = 0) = true := by simpa using ha
        refine sp_of rfl 0 (by rfl) ?_
        delta c27
        cases pf <;> simp +contextual -dsimp -implicitDefEqProofs (maxSteps := 5000000) only [qh, qc, q1, hs, e1, e2, h0, z1, ha, go_sem, simprocAttr]
      · have z1 : decide (A.2 = 0) = false := by simpa using ha
        rw [zero_o]
        refine sp_of rfl 0 (by rfl) ?_
        delta c27
        cases pf <;> simp +contextual -dsimp -implicitDefEqProofs (maxSteps := 5000000) only [qh, qc, q1, hs, e1, e2, h0, z1, go_sem, simprocAttr]
    · have hA : stepRaw m k s = stampM m k := by unfold stepRaw; simp only [h0, show ((1 : Int) = 0) = False by decide, show ((2 : Int) = 0) = False by decide, show ((2 : Int) = 1) = False by decide, show ((3 : Int) = 0) = False by decide, show ((3 : Int) = 1) = False by decide, show ((3 : Int) = 2) = False by decide, show ((4 : Int) = 0) = False by decide, show ((4 : Int) = 1) = False by decide, show ((4 : Int) = 2) = False by decide, show ((4 : Int) = 3) = False by decide, show ((5 : Int) = 0) = False by decide, show ((5 : Int) = 1) = False by decide, show ((5 : Int) = 2) = False by decide, show ((5 : Int) = 3) = False by decide, show ((5 : Int) = 4) = False by decide, show ((6 : Int) = 0) = False by decide, show ((6 : Int) = 1) = False by decide, show ((6 : Int) = 2) = False by decide, show ((6 : Int) = 3) = False by decide, show ((6 : Int) = 4) = False by decide, show ((6 : Int) = 5) = False by decide, if_true, if_false]
      obtain ⟨T, hT, hT2⟩ := fin _ hA
      rw [hT]
      clear hT hA fin
      generalize stampM m k = A at q2 hT2
      rcases hT2 with ⟨ha, rfl⟩ | ⟨ha, rfl⟩
      · have z1 : decide (A.2 = 0) = true := by simpa using ha
        refine sp_of rfl 0 (by rfl) ?_
        delta c27
        cases pf <;> simp +contextual -dsimp -implicitDefEqProofs (maxSteps := 5000000) only [qh, qc, q2, hs, e1, e2, h0, z1, ha, go_sem, simprocAttr]
      · have z1 : decide (A.2 = 0) = false := by simpa using ha
        rw [zero_o]
        refine sp_of rfl 0 (by rfl) ?_
        delta c27
        cases pf <;> simp +contextual -dsimp -implicitDefEqProofs (maxSteps := 5000000) only [qh, qc, q2, hs, e1, e2, h0, z1, go_sem, simprocAttr]
    · have hA : stepRaw m k s = checkM m k := by unfold stepRaw; simp only [h0, show ((1 : Int) = 0) = False by decide, show ((2 : Int) = 0) = False by decide, show ((2 : Int) = 1) = False by decide, show ((3 : Int) = 0) = False by decide, show ((3 : Int) = 1) = False by decide, show ((3 : Int) = 2) = False by decide, show ((4 : Int) = 0) = False by decide, show ((4 : Int) = 1) = False by decide, show ((4 : Int) = 2) = False by decide, show ((4 : Int) = 3) = False by decide, show ((5 : Int) = 0) = False by decide, show ((5 : Int) = 1) = False by decide, show ((5 : Int) = 2) = False by decide, show ((5 : Int) = 3) = False by decide, show ((5 : Int) = 4) = False by decide, show ((6 : Int) = 0) = False by decide, show ((6 : Int) = 1) = False by decide, show ((6 : Int) = 2) = False by decide, show ((6 : Int) = 3) = False by decide, show ((6 : Int) = 4) = False by decide, show ((6 : Int) = 5) = False by decide, if_true, if_false]
      obtain ⟨T, hT, hT2⟩ := fin _ hA
      rw [hT]
      clear hT hA fin
      generalize checkM m k = A at q3 hT2
      rcases hT2 with ⟨ha, rfl⟩ | ⟨ha, rfl⟩
      · have z1 : decide (A.2 = 0) = true := by simpa using ha
        refine sp_of rfl 0 (by rfl) ?_
        delta c27
        cases pf <;> simp +contextual -dsimp -implicitDefEqProofs (maxSteps := 5000000) only [qh, qc, q3, hs, e1, e2, h0, z1, ha, go_sem, simprocAttr]
      · have z1 : decide (A.2 = 0) = false := by simpa using ha
        rw [zero_o]
        refine sp_of rfl 0 (by rfl) ?_
        delta c27
        cases pf <;> simp +contextual -dsimp -implicitDefEqProofs (maxSteps := 5000000) only [qh, qc, q3, hs, e1, e2, h0, z1, go_sem, simprocAttr]
    · have hA : stepRaw m k s = backM m k := by unfold stepRaw; simp only [h0, show ((1 : Int) = 0) = False by decide, show ((2 : Int) = 0) = False by decide, show ((2 : Int) = 1) = False by decide, show ((3 : Int) = 0) = False by decide, show ((3 : Int) = 1) = False by decide, show ((3 : Int) = 2) = False by decide, show ((4 : Int) = 0) = False by decide, show ((4 : Int) = 1) = False by decide, show ((4 : Int) = 2) = False by decide, show ((4 : Int) = 3) = False by decide, show ((5 : Int) = 0) = False by decide, show ((5 : Int) = 1) = False by decide, show ((5 : Int) = 2) = False by decide, show ((5 : Int) = 3) = False by decide, show ((5 : Int) = 4) = False by decide, show ((6 : Int) = 0) = False by decide, show ((6 : Int) = 1) = False by decide, show ((6 : Int) = 2) = False by decide, show ((6 : Int) = 3) = False by decide, show ((6 : Int) = 4) = False by decide, show ((6 : Int) = 5) = False by decide, if_true, if_false]
      obtain ⟨T, hT, hT2⟩ := fin _ hA
      rw [hT]
      clear hT hA fin
      generalize backM m k = A at q4 hT2
      rcases hT2 with ⟨ha, rfl⟩ | ⟨ha, rfl⟩
      · have z1 : decide (A.2 = 0) = true := by simpa using ha
        refine sp_of rfl 0 (by rfl) ?_
        delta c27
        cases pf <;> simp +contextual -dsimp -implicitDefEqProofs (maxSteps := 5000000) only [qh, qc, q4, hs, e1, e2, h0, z1, ha, go_sem, simprocAttr]
      · have z1 : decide (A.2 = 0) = false := by simpa using ha
        rw [zero_o]
        refine sp_of rfl 0 (by rfl) ?_
        delta c27
        cases pf <;> simp +contextual -dsimp -implicitDefEqProofs (maxSteps := 5000000) only [qh, qc, q4, hs, e1, e2, h0, z1, go_sem, simprocAttr]
    · have hA : stepRaw m k s = parkM m k := by unfold stepRaw; simp only [h0, show ((1 : Int) = 0) = False by decide, show ((2 : Int) = 0) = False by decide, show ((2 : Int) = 1) = False by decide, show ((3 : Int) = 0) = False by decide, show ((3 : Int) = 1) = False by decide, show ((3 : Int) = 2) = False by decide, show ((4 : Int) = 0) = False by decide, show ((4 : Int) = 1) = False by decide, show ((4 : Int) = 2) = False by decide, show ((4 : Int) = 3) = False by decide, show ((5 : Int) = 0) = False by decide, show ((5 : Int) = 1) = False by decide, show ((5 : Int) = 2) = False by decide, show ((5 : Int) = 3) = False by decide, show ((5 : Int) = 4) = False by decide, show ((6 : Int) = 0) = False by decide, show ((6 : Int) = 1) = False by decide, show ((6 : Int) = 2) = False by decide, show ((6 : Int) = 3) = False by decide, show ((6 : Int) = 4) = False by decide, show ((6 : Int) = 5) = False by decide, if_true, if_false]
      obtain ⟨T, hT, hT2⟩ := fin _ hA
      rw [hT]
      clear hT hA fin
      generalize parkM m k = A at q5 hT2
      rcases hT2 with ⟨ha, rfl⟩ | ⟨ha, rfl⟩
      · have z1 : decide (A.2 = 0) = true := by simpa using ha
        refine sp_of rfl 0 (by rfl) ?_
        delta c27
        cases pf <;> simp +contextual -dsimp -implicitDefEqProofs (maxSteps := 5000000) only [qh, qc, q5, hs, e1, e2, h0, z1, ha, go_sem, simprocAttr]
      · have z1 : decide (A.2 = 0) = false := by simpa using ha
        rw [zero_o]
        refine sp_of rfl 0 (by rfl) ?_
        delta c27
        cases pf <;> simp +contextual -dsimp -implicitDefEqProofs (maxSteps := 5000000) only [qh, qc, q5, hs, e1, e2, h0, z1, go_sem, simprocAttr]
    · have hA : stepRaw m k s = (m, 0) := by unfold stepRaw; simp only [h0, show ((6 : Int) = 0) = False by decide, show ((6 : Int) = 1) = False by decide, show ((6 : Int) = 2) = False by decide, show ((6 : Int) = 3) = False by decide, show ((6 : Int) = 4) = False by decide, show ((6 : Int) = 5) = False by decide, if_true, if_false]
      rw [step_ok hs hM (by rw [hA]), hA]
      refine sp_of rfl 0 (by rfl) ?_
      delta c27
      cases pf <;> simp +contextual -dsimp -implicitDefEqProofs (maxSteps := 5000000) only [qh, qc, hs, e1, e2, h0, go_sem, simprocAttr]
end Ve
