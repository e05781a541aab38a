/- The reference's storing, parking. -/
import Derived.Test.YtapgmjgledahiaaGreatS25
import Derived.Test.YtapgmjgledahiaaGreatS24
import Derived.Test.YtapgmjgledahiaaGreatS22
import Derived.Test.YtapgmjgledahiaaGreatVeN
set_option linter.all false
set_option linter.unusedSectionVars false
namespace Ve
open Go Ve.Ab
set_option maxHeartbeats 16000000
set_option maxRecDepth 10000

theorem store_none {m : TMach} {at_ : Int} (h : curI m at_ = none) : storeM m at_ = (zeroM, 1600) := by unfold storeM; rw [h]
theorem store_no {m : TMach} {at_ : Int} {s : TSess} {x : TInst} (h : curI m at_ = some (s, x)) (hc : ¬ x.code = 3) : storeM m at_ = (zeroM, 1600) := by unfold storeM; rw [h]; simp only [hc, if_false]
theorem store_ok {m : TMach} {k : Nat} {s : TSess} {x : TInst} (h : curI m k = some (s, x)) (hc : x.code = 3) : storeM m k = (tellM (setS m k { s with writes := (withWrite s.writes ⟨x.b, x.c, s.regs.get x.a⟩).1, pc := s.pc + 1 }) ⟨s.id, s.label, 1, s.regs.get x.a⟩, 0) := by unfold storeM; rw [h]; simp only [hc, if_true, Int.toNat_natCast]
theorem reg_in {r : A4 Int} (h : regsMay r = true) {a : Int} (ha : inR a 3 = true) : inR (r.get a) 255 = true := by
  simp only [regsMay, A4.all, Bool.and_eq_true] at h
  unfold A4.get
  split
  · exact h.1.1.1
  · split
    · exact h.1.1.2
    · split
      · exact h.1.2
      · exact h.2
theorem r_store (i : Nat) (pf : Bool) (m : TMach) (hm : SmM m) (at_ : Int) : pureOf (Lv ctx (i + 9)) 96 [eM pf m, iV at_] = some (.tup [oM (storeM m at_).1, iV (storeM m at_).2]) := by
  have qh := r_here (i + 0) pf m at_ hm
  have qc := r_copy (i + 6) pf m hm
  have qr := fun v h => r_running (i + 7) pf m at_ v h
  simp only [Nat.add_assoc, Nat.reduceAdd] at qh qc qr
  cases at_cases m at_ with
  | no h =>
    rw [store_none (cur_no h), zero_o]
    rw [h] at qh
    refine sp_of rfl 0 (by rfl) ?_
    delta c96
    cases pf <;> simp +contextual -dsimp -implicitDefEqProofs (maxSteps := 5000000) only [qh, go_sem, simprocAttr]
  | off k s e0 hs hM hS hst =>
    subst e0
    have hk := get_lt hs
    have e1 : (0 ≤ (k : Int)) = True := by simp
    have e2 : ((k : Int) < (m.sess.length : Int)) = True := by simpa using hk
    have e3 : ∀ x, ((m.sess.map oS).set k x)[k]? = some x := fun x => List.getElem?_set_self (by simpa using hk)
    have e4 : ∀ x y, ((m.sess.map oS).set k x).set k y = (m.sess.map oS).set k y := fun x y => List.set_set ..
    have hh := here_k hs hM
    rw [hh] at qh
    rw [store_none (cur_off hs hM hst), zero_o]
    have q := qr (-1) ⟨k, s, rfl, hs, hS, .inl ⟨hst, rfl⟩⟩
    refine sp_of rfl 0 (by rfl) ?_
    delta c96
    cases pf <;> simp +contextual -dsimp -implicitDefEqProofs (maxSteps := 5000000) only [qh, qc, q, hs, e1, e2, go_sem, simprocAttr]
  | fin k s e0 hs hM hS hst hp =>
    subst e0
    have hk := get_lt hs
    have e1 : (0 ≤ (k : Int)) = True := by simp
    have e2 : ((k : Int) < (m.sess.length : Int)) = True := by simpa using hk
    have e3 : ∀ x, ((m.sess.map oS).set k x)[k]? = some x := fun x => List.getElem?_set_self (by simpa using hk)
    have e4 : ∀ x y, ((m.sess.map oS).set k x).set k y = (m.sess.map oS).set k y := fun x y => List.set_set ..
    have hh := here_k hs hM
    rw [hh] at qh
    rw [store_none (cur_fin hs hM hst hp), zero_o]
    have q := qr (-1) ⟨k, s, rfl, hs, hS, .inr (.inl ⟨hst, hp, rfl⟩)⟩
    refine sp_of rfl 0 (by rfl) ?_
    delta c96
    cases pf <;> simp +contextual -dsimp -implicitDefEqProofs (maxSteps := 5000000) only [qh, qc, q, hs, e1, e2, go_sem, simprocAttr]
  | on k n s x e0 hs hM hS hst hp hn hi =>
    subst e0
    have hk := get_lt hs
    have e1 : (0 ≤ (k : Int)) = True := by simp
    have e2 : ((k : Int) < (m.sess.length : Int)) = True := by simpa using hk
    have e3 : ∀ x, ((m.sess.map oS).set k x)[k]? = some x := fun x => List.getElem?_set_self (by simpa using hk)
    have e4 : ∀ x y, ((m.sess.map oS).set k x).set k y = (m.sess.map oS).set k y := fun x y => List.set_set ..
    have hh := here_k hs hM
    rw [hh] at qh
    have hn' := get_lt hi
    have p1 : (0 ≤ (n : Int)) = True := by simp
    have p2 : ((n : Int) < (s.prog.length : Int)) = True := by simpa using hn'
    have p3 : decide ((s.prog.length : Int) ≤ (n : Int)) = false := by simp; omega
    have z0 : decide (s.step = 0) = true := by simpa using hst
    have hw1 : IntKind.wrap .i64 ((n : Int) + 1) = (n : Int) + 1 := by
      have := (hm.s s (List.mem_of_getElem? hs)).bp
      exact wrap_small (by omega) (by omega)
    have hcur := cur_on hs hM hst hp hi
    have q := qr x.code ⟨k, s, rfl, hs, hS, .inr (.inr ⟨hst, n, x, hp, hi, rfl⟩)⟩
    obtain ⟨hx1, hx2, hx3⟩ := sp_inst hS hi
    by_cases hc : x.code = 3
    · rw [store_ok hcur hc]
      have hsm := hm.s s (List.mem_of_getElem? hs)
      have ha := inst_reg hx1 ⟨by omega, by omega⟩
      obtain ⟨hb, hcc⟩ := inst_lab hx1 (.inr hc)
      have hvi := reg_in hS.regs ha
      have qs := fun v => r_withWrite (i + 3) pf false s.writes hsm.bw x.b x.c v
      have hww : (withWrite s.writes ⟨x.b, x.c, s.regs.get x.a⟩).2 = 0 := by
        have : (writesMay s.writes && write1 ⟨x.b, x.c, s.regs.get x.a⟩) = true := by simp only [hS.writes, write1, hb, hcc, hvi, Bool.and_self]
        unfold withWrite; rw [this]; rfl
      have qs1 := qs (s.regs.get x.a)
      rw [hww] at qs1
      generalize (withWrite s.writes ⟨x.b, x.c, s.regs.get x.a⟩).1 = W at qs1 ⊢
      have ql := r_tell (i + 7) (setS m k { s with writes := W, pc := s.pc + 1 }) k _ (set_get hs) 1 (s.regs.get x.a)
      generalize tellM (setS m k { s with writes := W, pc := s.pc + 1 }) ⟨s.id, s.label, 1, s.regs.get x.a⟩ = T at ql ⊢
      have c3 : decide (x.code = 3) = true := by simpa using hc
      simp only [Nat.add_assoc, Nat.reduceAdd, oM, cO, oWs, oSs, oEs, setS, List.map_set, oS, hp] at ql qs1
      rcases lab_cases x.a with h0 | h0 | h0 | h0 | h0
      case inr.inr.inr.inr => rw [ha] at h0; cases h0
      all_goals
        simp only [h0, A4.get, show ((1 : Int) = 0) = False by decide, show ((2 : Int) = 0) = False by decide, show ((2 : Int) = 1) = False by decide, show ((3 : Int) = 0) = False by decide, show ((3 : Int) = 1) = False by decide, show ((3 : Int) = 2) = False by decide, if_true, if_false] at ql qs1
        refine sp_of rfl 0 (by rfl) ?_
        delta c96
        cases pf <;> simp +contextual -dsimp -implicitDefEqProofs (maxSteps := 5000000) only [qh, qc, q, qs1, ql, hs, e1, e2, e3, e4, p1, p2, p3, z0, h0, hp, hi, hc, c3, hw1, List.length_set, hk, go_sem, simprocAttr]
    · rw [store_no hcur hc, zero_o]
      have c3 : decide (x.code = 3) = false := by simpa using hc
      refine sp_of rfl 0 (by rfl) ?_
      delta c96
      cases pf <;> simp +contextual -dsimp -implicitDefEqProofs (maxSteps := 5000000) only [qh, qc, q, hs, e1, e2, hp, c3, hw1, go_sem, simprocAttr]
theorem park_none {m : TMach} {at_ : Int} (h : curI m at_ = none) (h' : curS m at_ 5 = none) : parkM m at_ = (zeroM, 2200) := by unfold parkM; rw [h]; simp only [h']
theorem park_no {m : TMach} {at_ : Int} {s : TSess} {x : TInst} (h : curI m at_ = some (s, x)) (hc : ¬ x.code = 5) : parkM m at_ = (zeroM, 2200) := by unfold parkM; rw [h]; simp only [hc, if_false]
theorem park_on {m : TMach} {k : Nat} {s : TSess} {x : TInst} (h : curI m k = some (s, x)) (hc : x.code = 5) : parkM m k = (tellM (setS m k { s with writes := [], at_ := 0, step := 5 }) ⟨s.id, s.label, 4, s.reads.length⟩, 0) := by unfold parkM; rw [h]; simp only [hc, if_true, Int.toNat_natCast]
theorem park_wake {m : TMach} {at_ : Int} {s : TSess} (h : curI m at_ = none) (h' : curS m at_ 5 = some s) (hc : (changedM m.words s.reads).1 = true) : parkM m at_ = againM m at_ 5 := by unfold parkM; rw [h]; simp only [h', hc, if_true]
theorem park_stay {m : TMach} {at_ : Int} {s : TSess} (h : curI m at_ = none) (h' : curS m at_ 5 = some s) (hc : (changedM m.words s.reads).1 = false) : parkM m at_ = (m, 0) := by unfold parkM; rw [h]; simp only [h', hc, Bool.false_eq_true, if_false]
theorem r_park (i : Nat) (pf : Bool) (m : TMach) (hm : SmM m) (at_ : Int) : pureOf (Lv ctx (i + 10)) 17 [eM pf m, iV at_] = some (.tup [oM (parkM m at_).1, iV (parkM m at_).2]) := by
  have qh := r_here (i + 1) pf m at_ hm
  have qc := r_copy (i + 7) pf m hm
  have qa := r_again (i + 0) pf m hm at_ 5
  have qr := fun v h => r_running (i + 8) pf m at_ v h
  simp only [Nat.add_assoc, Nat.reduceAdd] at qh qc qr qa
  cases at_cases m at_ with
  | no h =>
    rw [park_none (cur_no h) (curS_no h), zero_o]
    rw [h] at qh
    refine sp_of rfl 0 (by rfl) ?_
    delta c17
    cases pf <;> simp +contextual -dsimp -implicitDefEqProofs (maxSteps := 5000000) only [qh, go_sem, simprocAttr]
  | off k s e0 hs hM hS hst =>
    subst e0
    have hk := get_lt hs
    have e1 : (0 ≤ (k : Int)) = True := by simp
    have e2 : ((k : Int) < (m.sess.length : Int)) = True := by simpa using hk
    have e3 : ∀ x, ((m.sess.map oS).set k x)[k]? = some x := fun x => List.getElem?_set_self (by simpa using hk)
    have e4 : ∀ x y, ((m.sess.map oS).set k x).set k y = (m.sess.map oS).set k y := fun x y => List.set_set ..
    have hh := here_k hs hM
    rw [hh] at qh
    have q := qr (-1) ⟨k, s, rfl, hs, hS, .inl ⟨hst, rfl⟩⟩
    have z0 : decide (s.step = 0) = false := by simpa using hst
    by_cases h5 : s.step = 5
    · have z5 : decide (s.step = 5) = true := by simpa using h5
      have hsm := hm.s s (List.mem_of_getElem? hs)
      have qg := r_changed (i + 4) pf pf pf pf false false false false m.words.a0 m.words.a1 m.words.a2 m.words.a3 hm.w0 hm.w1 hm.w2 hm.w3 pf false s.reads (by have := hsm.br; simp only [BB]; omega)
      rw [show (⟨m.words.a0, m.words.a1, m.words.a2, m.words.a3⟩ : A4 (List TWord)) = m.words from rfl] at qg
      cases hg : (changedM m.words s.reads).1
      · rw [park_stay (cur_off hs hM hst) (curS_on hs hM h5) hg]
        rw [hg] at qg
        simp only [Nat.add_assoc, Nat.reduceAdd] at qg
        refine sp_of rfl 0 (by rfl) ?_
        delta c17
        cases pf <;> simp +contextual -dsimp -implicitDefEqProofs (maxSteps := 5000000) only [qh, qc, q, qg, hs, e1, e2, z0, z5, h5, go_sem, simprocAttr]
      · rw [park_wake (cur_off hs hM hst) (curS_on hs hM h5) hg]
        rw [hg] at qg
        simp only [Nat.add_assoc, Nat.reduceAdd] at qg
        generalize againM m k 5 = r at qa ⊢
        refine sp_of rfl 0 (by rfl) ?_
        delta c17
        cases pf <;> simp +contextual -dsimp -implicitDefEqProofs (maxSteps := 5000000) only [qh, qc, q, qg, qa, hs, e1, e2, z0, z5, h5, go_sem, simprocAttr]
    · have z5 : decide (s.step = 5) = false := by simpa using h5
      rw [park_none (cur_off hs hM hst) (curS_off hs hM h5), zero_o]
      refine sp_of rfl 0 (by rfl) ?_
      delta c17
      cases pf <;> simp +contextual -dsimp -implicitDefEqProofs (maxSteps := 5000000) only [qh, qc, q, hs, e1, e2, z0, z5, go_sem, simprocAttr]
  | fin k s e0 hs hM hS hst hp =>
    subst e0
    have hk := get_lt hs
    have e1 : (0 ≤ (k : Int)) = True := by simp
    have e2 : ((k : Int) < (m.sess.length : Int)) = True := by simpa using hk
    have e3 : ∀ x, ((m.sess.map oS).set k x)[k]? = some x := fun x => List.getElem?_set_self (by simpa using hk)
    have e4 : ∀ x y, ((m.sess.map oS).set k x).set k y = (m.sess.map oS).set k y := fun x y => List.set_set ..
    have hh := here_k hs hM
    rw [hh] at qh
    have h5 : ¬ s.step = 5 := by omega
    have z5 : decide (s.step = 5) = false := by simpa using h5
    rw [park_none (cur_fin hs hM hst hp) (curS_off hs hM h5), zero_o]
    have q := qr (-1) ⟨k, s, rfl, hs, hS, .inr (.inl ⟨hst, hp, rfl⟩)⟩
    refine sp_of rfl 0 (by rfl) ?_
    delta c17
    cases pf <;> simp +contextual -dsimp -implicitDefEqProofs (maxSteps := 5000000) only [qh, qc, q, hs, e1, e2, z5, go_sem, simprocAttr]
  | on k n s x e0 hs hM hS hst hp hn hi =>
    subst e0
    have hk := get_lt hs
    have e1 : (0 ≤ (k : Int)) = True := by simp
    have e2 : ((k : Int) < (m.sess.length : Int)) = True := by simpa using hk
    have e3 : ∀ x, ((m.sess.map oS).set k x)[k]? = some x := fun x => List.getElem?_set_self (by simpa using hk)
    have e4 : ∀ x y, ((m.sess.map oS).set k x).set k y = (m.sess.map oS).set k y := fun x y => List.set_set ..
    have hh := here_k hs hM
    rw [hh] at qh
    have hn' := get_lt hi
    have p1 : (0 ≤ (n : Int)) = True := by simp
    have p2 : ((n : Int) < (s.prog.length : Int)) = True := by simpa using hn'
    have p3 : decide ((s.prog.length : Int) ≤ (n : Int)) = false := by simp; omega
    have z0 : decide (s.step = 0) = true := by simpa using hst
    have hw1 : IntKind.wrap .i64 ((n : Int) + 1) = (n : Int) + 1 := by
      have := (hm.s s (List.mem_of_getElem? hs)).bp
      exact wrap_small (by omega) (by omega)
    have hcur := cur_on hs hM hst hp hi
    have q := qr x.code ⟨k, s, rfl, hs, hS, .inr (.inr ⟨hst, n, x, hp, hi, rfl⟩)⟩
    have h5 : ¬ s.step = 5 := by omega
    have z5 : decide (s.step = 5) = false := by simpa using h5
    by_cases hc : x.code = 5
    · rw [park_on hcur hc]
      have c3 : decide (x.code = 5) = true := by simpa using hc
      have ql := r_tell (i + 8) (setS m k { s with writes := [], at_ := 0, step := 5 }) k _ (set_get hs) 4 s.reads.length
      generalize tellM (setS m k { s with writes := [], at_ := 0, step := 5 }) ⟨s.id, s.label, 4, s.reads.length⟩ = T at ql ⊢
      simp only [Nat.add_assoc, Nat.reduceAdd, oM, cO, oWs, oSs, oEs, oWrs, setS, List.map_set, List.map_nil, oS, hp] at ql
      refine sp_of rfl 0 (by rfl) ?_
      delta c17
      cases pf <;> simp +contextual -dsimp -implicitDefEqProofs (maxSteps := 5000000) only [qh, qc, q, ql, hs, e1, e2, e3, e4, z0, z5, hp, c3, List.length_set, List.map_nil, hk, go_sem, simprocAttr]
    · rw [park_no hcur hc, zero_o]
      have c3 : decide (x.code = 5) = false := by simpa using hc
      refine sp_of rfl 0 (by rfl) ?_
      delta c17
      cases pf <;> simp +contextual -dsimp -implicitDefEqProofs (maxSteps := 5000000) only [qh, qc, q, hs, e1, e2, hp, c3, z5, z0, go_sem, simprocAttr]
end Ve
