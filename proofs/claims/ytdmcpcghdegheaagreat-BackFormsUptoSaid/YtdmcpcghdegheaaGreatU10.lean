/- The statement BackForms. -/
import Derived.Test.YtdmcpcghdegheaaGreatU9
import Derived.Test.YtdmcpcghdegheaaGreatU2
set_option linter.all false
set_option linter.unusedSectionVars false
namespace Ve
open Go Ve.Ab
set_option maxRecDepth 10000
set_option linter.unusedSimpArgs false
set_option linter.unusedVariables false
def M07 : TMach := ⟨⟨[⟨5, 0, 4⟩, ⟨6, 0, 0⟩], [⟨7, 0, 0⟩], [], [⟨9, 0, 0⟩]⟩, ⟨1, 0, 0, 0⟩, 9, [⟨3, 0, 3, [⟨2, 0, 0, 0⟩, ⟨1, 0, 0, 0⟩, ⟨3, 0, 0, 0⟩], 4, 3, ⟨10, 0, 0, 0⟩, [⟨0, 0, 0⟩], [⟨0, 0, 10⟩], 0, 1, 0, 0, 0⟩, ⟨5, 1, 1, [⟨2, 0, 0, 1⟩, ⟨3, 0, 1, 0⟩], 0, 0, ⟨0, 0, 0, 0⟩, [], [], 0, 0, 0, 0, 0⟩], [⟨3, 0, 0, 5⟩, ⟨3, 0, 1, 10⟩]⟩
theorem sm07 : SmM M07 := by
  refine ⟨by decide, by decide, by decide, by decide, by decide, by decide, ?_⟩
  intro s hs
  simp only [M07, List.mem_cons, List.mem_nil_iff, or_false] at hs
  rcases hs with rfl | rfl <;> exact ⟨by decide, by decide, by decide⟩
/-- its first session's own step and registers -/
def M07s (st : Int) (r : A4 Int) : TMach := ⟨M07.words, M07.clocks, M07.ceil, [⟨3, 0, 3, [⟨2, 0, 0, 0⟩, ⟨1, 0, 0, 0⟩, ⟨3, 0, 0, 0⟩], st, 3, r, [⟨0, 0, 0⟩], [⟨0, 0, 10⟩], 0, 1, 0, 0, 0⟩, ⟨5, 1, 1, [⟨2, 0, 0, 1⟩, ⟨3, 0, 1, 0⟩], 0, 0, ⟨0, 0, 0, 0⟩, [], [], 0, 0, 0, 0, 0⟩], M07.trace⟩
theorem sm07s (st : Int) (r : A4 Int) : SmM (M07s st r) := by
  refine ⟨sm07.b0, sm07.b1, sm07.b2, sm07.b3, sm07.bs, sm07.bt, ?_⟩
  intro s hs
  simp only [M07s, List.mem_cons, List.mem_nil_iff, or_false] at hs
  rcases hs with rfl | rfl <;> exact ⟨by simp, by simp, by simp⟩
theorem neg_no {D c : Int} (h : 1 ≤ D) : inR (-D) c = false := by
  cases h' : inR (-D) c with
  | false => rfl
  | true => rw [inR_le] at h'; omega
theorem step_no {m : TMach} {k : Nat} {s : TSess} (hs : m.sess[k]? = some s) (h : s.step ≠ 4) : backM m k = (zeroM, 2100) := by
  apply back_none
  apply left_none
  unfold curS
  split
  · simp only [Int.toNat_natCast, hs, h, if_false]
  · rfl
theorem here_back {m : TMach} {at_ : Int} (h : hereM m at_ = false) : backM m at_ = (zeroM, 2100) := back_none (left_none (curS_no h))
theorem here_sess {m : TMach} {at_ : Int} {s : TSess} (hs : s ∈ m.sess) (h : regsMay s.regs = false) : hereM m at_ = false := by
  cases hh : hereM m at_ with
  | false => rfl
  | true =>
    simp only [hereM, Bool.and_eq_true] at hh
    have := (sp _ _).1 (((mayP m).1 hh.1.1).sess s hs)
    rw [this.regs] at h; cases h
set_option maxHeartbeats 8000000 in
theorem u_backForms (i : Nat) (w x : Int) (haw : pureOf (Lv ctx (i + 23)) 31 [] = some (bV true)) (hst : pureOf (Lv ctx (i + 23)) 32 [iV 0, iV 7] = some (oM M07)) : pureOf (Lv ctx (i + 24)) 10 [iV w, iV x] = some (bV true) := by
  have hz := w_zero (i + 20) true false
  have hz' := w_zero (i + 20) false false
  have h2 := fun pf m hm a => s_back (i + 1) pf m hm a
  simp only [Nat.add_assoc, Nat.reduceAdd] at hz hz' h2
  have hrem : ∀ t a, opBin lay .rem t (.lit (.int .u64 a)) (.lit (.int .u64 5)) = some (.lit (.int .u64 (a.tmod 5))) := fun t a => bin_rem (by decide)
  have hrem6 : ∀ t a, opBin lay .rem t (.lit (.int .u64 a)) (.lit (.int .u64 6)) = some (.lit (.int .u64 (a.tmod 6))) := fun t a => bin_rem (by decide)
  have hrem7 : ∀ t a, opBin lay .rem t (iV a) (iV 7) = some (iV (a.tmod 7)) := fun t a => bin_rem (by decide)
  have hshu : ∀ t a, opBin lay .shr t (.lit (.int .u64 a)) (.lit (.int .u64 3)) = some (.lit (.int .u64 (a.fdiv (2 ^ min (3 : Int).toNat (IntKind.bits .u64))))) := fun t a => bin_shr (by decide)
  have hshr : ∀ t a, opBin lay .shr t (iV a) (.lit (.int .u64 3)) = some (iV (a.fdiv (2 ^ min (3 : Int).toNat (IntKind.bits .i64)))) := fun t a => bin_shr (by decide)
  have hT : ∃ T : Int, ((uW w).fdiv (2 ^ min (3 : Int).toNat (IntKind.bits .u64))).tmod 6 = T ∧ 0 ≤ T ∧ T ≤ 5 := by
    have h := rem_in (a := (uW w).fdiv (2 ^ min (3 : Int).toNat (IntKind.bits .u64))) (b := 6) (Int.fdiv_nonneg (uW_pos w) (by decide)) (by omega)
    exact ⟨_, rfl, h.1, h.2⟩
  obtain ⟨T, hT, hT1⟩ := hT
  have hT' : ((IntKind.wrap .u64 w).fdiv (2 ^ min (3 : Int).toNat (IntKind.bits .u64))).tmod 6 = T := hT
  clear hT
  generalize hE6 : (IntKind.wrap .u64 w).fdiv (2 ^ min (3 : Int).toNat (IntKind.bits .u64)) = E6 at hT'
  have hsh6 : ∀ t, opBin lay .shr t (.lit (.int .u64 (IntKind.wrap .u64 w))) (.lit (.int .u64 3)) = some (.lit (.int .u64 E6)) := fun t => by rw [hshu, hE6]
  clear hshu hE6
  have hR : (IntKind.wrap .u64 w).tmod 5 = (uW w).tmod 5 := rfl
  have hR1 := rem_in (uW_pos w) (b := 5) (by omega)
  generalize (uW w).tmod 5 = R at hR hR1
  have hDin := inR_le.1 (mask_in x 1023 (by omega))
  have hD : IntKind.wrap .i64 (1 + andI x 1023) = 1 + andI x 1023 := wrap_small (by simp at hDin; omega) (by simp at hDin; omega)
  have hD1 : 1 ≤ 1 + andI x 1023 ∧ 1 + andI x 1023 ≤ 1024 := by simp at hDin; omega
  obtain ⟨D, hD, hD1⟩ : ∃ D, IntKind.wrap .i64 (1 + andI x 1023) = D ∧ 1 ≤ D ∧ D ≤ 1024 := ⟨_, hD, hD1⟩
  have hneg : IntKind.wrap .i64 (0 - D) = -D := by rw [Int.zero_sub]; exact wr_id (by omega) (by omega)
  have ha1 : IntKind.wrap .i64 (1 + D) = 1 + D := wrap_small (by omega) (by omega)
  generalize hE : w.fdiv (2 ^ min (3 : Int).toNat (IntKind.bits .i64)) = E at hshr
  have hS1 := mask_in E 1 (by omega)
  simp only [cast1] at hS1
  have hsh2 : ∀ t, opBin lay .shr t (iV w) (.lit (.int .u64 3)) = some (iV E) := fun t => by rw [hshr t w, hE]
  clear hshr hE
  have hss : M07.sess.map oS = [oS ⟨3, 0, 3, [⟨2, 0, 0, 0⟩, ⟨1, 0, 0, 0⟩, ⟨3, 0, 0, 0⟩], 4, 3, ⟨10, 0, 0, 0⟩, [⟨0, 0, 0⟩], [⟨0, 0, 10⟩], 0, 1, 0, 0, 0⟩, oS ⟨5, 1, 1, [⟨2, 0, 0, 1⟩, ⟨3, 0, 1, 0⟩], 0, 0, ⟨0, 0, 0, 0⟩, [], [], 0, 0, 0, 0, 0⟩] := rfl
  have hl : ((M07.sess.length : Nat) : Int) = 2 := rfl
  obtain hR0 | hR0 | hR0 | hR0 | hR0 : R = 0 ∨ R = 1 ∨ R = 2 ∨ R = 3 ∨ R = 4 := by omega
  · have hS := inR_le.1 hS1
    obtain hS | hS : andI E 1 = 0 ∨ andI E 1 = 1 := by omega
    · have f2 := h2 false M07 sm07 (-D)
      rw [here_back (here_at (.inl (by omega))), zero_o] at f2
      refine sp_of rfl 0 (by rfl) ?_
      delta c10
      simp (config := { contextual := true, dsimp := false, implicitDefEqProofs := false, maxSteps := 5000000 }) only [haw, hst, opConvert, hrem, hR, hR0, hD, un_neg, hneg, ha1, hsh2, hS, hz, f2, List.replicate, go_sem, Nat.reduceEqDiff, Nat.reduceAdd, Nat.reduceLeDiff, Nat.reduceMul, Nat.reduceLT, Nat.reduceBEq, Int.reduceLT, Int.reduceLE, Int.reduceToNat, Int.reduceAdd, Int.reduceSub, Int.reduceEq, Int.reduceNeg, ↓reduceIte]
    · have f2 := h2 false M07 sm07 (1 + D)
      rw [here_back (here_at (.inr (by rw [hl]; omega))), zero_o] at f2
      refine sp_of rfl 0 (by rfl) ?_
      delta c10
      simp (config := { contextual := true, dsimp := false, implicitDefEqProofs := false, maxSteps := 5000000 }) only [haw, hst, opConvert, hrem, hR, hR0, hD, un_neg, hneg, ha1, hsh2, hS, hz, f2, List.replicate, go_sem, Nat.reduceEqDiff, Nat.reduceAdd, Nat.reduceLeDiff, Nat.reduceMul, Nat.reduceLT, Nat.reduceBEq, Int.reduceLT, Int.reduceLE, Int.reduceToNat, Int.reduceAdd, Int.reduceSub, Int.reduceEq, Int.reduceNeg, ↓reduceIte]
  · have f2 := h2 false ⟨M07.words, M07.clocks, -D, M07.sess, M07.trace⟩ ⟨sm07.b0, sm07.b1, sm07.b2, sm07.b3, sm07.bs, sm07.bt, sm07.s⟩ 0
    rw [here_back (here_ceil (m := M07) (neg_no hD1.1)), zero_o] at f2
    refine sp_of rfl 0 (by rfl) ?_
    delta c10
    simp (config := { contextual := true, dsimp := false, implicitDefEqProofs := false, maxSteps := 5000000 }) only [haw, hst, opConvert, hrem, hR, hR0, hD, un_neg, hneg, hz, f2, go_sem, Nat.reduceEqDiff, Nat.reduceAdd, Nat.reduceLeDiff, Nat.reduceMul, Nat.reduceLT, Nat.reduceBEq, Int.reduceLT, Int.reduceLE, Int.reduceToNat, Int.reduceAdd, Int.reduceSub, Int.reduceEq, Int.reduceNeg, ↓reduceIte]
  · have key : ∀ st : Int, st ≠ 4 → pureOf (Lv ctx (i + 23)) 29 [eM false (M07s st ⟨10, 0, 0, 0⟩), iV 0] = some (.tup [oM zeroM, iV 2100]) := by
      intro st h
      have e : backM (M07s st ⟨10, 0, 0, 0⟩) 0 = (zeroM, 2100) := step_no (k := 0) rfl h
      rw [h2 false (M07s st ⟨10, 0, 0, 0⟩) (sm07s _ _) 0, e]
    obtain hS | hS | hS | hS | hS | hS : T = 0 ∨ T = 1 ∨ T = 2 ∨ T = 3 ∨ T = 4 ∨ T = 5 := by omega
    · have f2 := key 5 (by decide)
      have m7 : Int.tmod 5 7 = 5 := rfl
      have w7 : IntKind.wrap .i64 5 = 5 := rfl
      rw [zero_o] at f2
      simp only [M07s, eM, cM, eWs, eSs, eEs, eIs, eRs, eWrs, List.map_cons, List.map_nil, eS, eI, eR, eWr] at f2
      refine sp_of rfl 0 (by rfl) ?_
      delta c10
      simp (config := { contextual := true, dsimp := false, implicitDefEqProofs := false, maxSteps := 5000000 }) only [haw, hst, opConvert, hrem, hR, hR0, hD, un_neg, hneg, ha1, hsh6, hrem6, hT', hS, hrem7, m7, w7, hss, hl, hz, hz', f2, go_sem, Nat.reduceEqDiff, Nat.reduceAdd, Nat.reduceLeDiff, Nat.reduceMul, Nat.reduceLT, Nat.reduceBEq, Int.reduceLT, Int.reduceLE, Int.reduceToNat, Int.reduceAdd, Int.reduceSub, Int.reduceEq, Int.reduceNeg, ↓reduceIte]
    · have f2 := key 6 (by decide)
      have m7 : Int.tmod 6 7 = 6 := rfl
      have w7 : IntKind.wrap .i64 6 = 6 := rfl
      rw [zero_o] at f2
      simp only [M07s, eM, cM, eWs, eSs, eEs, eIs, eRs, eWrs, List.map_cons, List.map_nil, eS, eI, eR, eWr] at f2
      refine sp_of rfl 0 (by rfl) ?_
      delta c10
      simp (config := { contextual := true, dsimp := false, implicitDefEqProofs := false, maxSteps := 5000000 }) only [haw, hst, opConvert, hrem, hR, hR0, hD, un_neg, hneg, ha1, hsh6, hrem6, hT', hS, hrem7, m7, w7, hss, hl, hz, hz', f2, go_sem, Nat.reduceEqDiff, Nat.reduceAdd, Nat.reduceLeDiff, Nat.reduceMul, Nat.reduceLT, Nat.reduceBEq, Int.reduceLT, Int.reduceLE, Int.reduceToNat, Int.reduceAdd, Int.reduceSub, Int.reduceEq, Int.reduceNeg, ↓reduceIte]
    · have f2 := key 0 (by decide)
      have m7 : Int.tmod 7 7 = 0 := rfl
      have w7 : IntKind.wrap .i64 7 = 7 := rfl
      rw [zero_o] at f2
      simp only [M07s, eM, cM, eWs, eSs, eEs, eIs, eRs, eWrs, List.map_cons, List.map_nil, eS, eI, eR, eWr] at f2
      refine sp_of rfl 0 (by rfl) ?_
      delta c10
      simp (config := { contextual := true, dsimp := false, implicitDefEqProofs := false, maxSteps := 5000000 }) only [haw, hst, opConvert, hrem, hR, hR0, hD, un_neg, hneg, ha1, hsh6, hrem6, hT', hS, hrem7, m7, w7, hss, hl, hz, hz', f2, go_sem, Nat.reduceEqDiff, Nat.reduceAdd, Nat.reduceLeDiff, Nat.reduceMul, Nat.reduceLT, Nat.reduceBEq, Int.reduceLT, Int.reduceLE, Int.reduceToNat, Int.reduceAdd, Int.reduceSub, Int.reduceEq, Int.reduceNeg, ↓reduceIte]
    · have f2 := key 1 (by decide)
      have m7 : Int.tmod 8 7 = 1 := rfl
      have w7 : IntKind.wrap .i64 8 = 8 := rfl
      rw [zero_o] at f2
      simp only [M07s, eM, cM, eWs, eSs, eEs, eIs, eRs, eWrs, List.map_cons, List.map_nil, eS, eI, eR, eWr] at f2
      refine sp_of rfl 0 (by rfl) ?_
      delta c10
      simp (config := { contextual := true, dsimp := false, implicitDefEqProofs := false, maxSteps := 5000000 }) only [haw, hst, opConvert, hrem, hR, hR0, hD, un_neg, hneg, ha1, hsh6, hrem6, hT', hS, hrem7, m7, w7, hss, hl, hz, hz', f2, go_sem, Nat.reduceEqDiff, Nat.reduceAdd, Nat.reduceLeDiff, Nat.reduceMul, Nat.reduceLT, Nat.reduceBEq, Int.reduceLT, Int.reduceLE, Int.reduceToNat, Int.reduceAdd, Int.reduceSub, Int.reduceEq, Int.reduceNeg, ↓reduceIte]
    · have f2 := key 2 (by decide)
      have m7 : Int.tmod 9 7 = 2 := rfl
      have w7 : IntKind.wrap .i64 9 = 9 := rfl
      rw [zero_o] at f2
      simp only [M07s, eM, cM, eWs, eSs, eEs, eIs, eRs, eWrs, List.map_cons, List.map_nil, eS, eI, eR, eWr] at f2
      refine sp_of rfl 0 (by rfl) ?_
      delta c10
      simp (config := { contextual := true, dsimp := false, implicitDefEqProofs := false, maxSteps := 5000000 }) only [haw, hst, opConvert, hrem, hR, hR0, hD, un_neg, hneg, ha1, hsh6, hrem6, hT', hS, hrem7, m7, w7, hss, hl, hz, hz', f2, go_sem, Nat.reduceEqDiff, Nat.reduceAdd, Nat.reduceLeDiff, Nat.reduceMul, Nat.reduceLT, Nat.reduceBEq, Int.reduceLT, Int.reduceLE, Int.reduceToNat, Int.reduceAdd, Int.reduceSub, Int.reduceEq, Int.reduceNeg, ↓reduceIte]
    · have f2 := key 3 (by decide)
      have m7 : Int.tmod 10 7 = 3 := rfl
      have w7 : IntKind.wrap .i64 10 = 10 := rfl
      rw [zero_o] at f2
      simp only [M07s, eM, cM, eWs, eSs, eEs, eIs, eRs, eWrs, List.map_cons, List.map_nil, eS, eI, eR, eWr] at f2
      refine sp_of rfl 0 (by rfl) ?_
      delta c10
      simp (config := { contextual := true, dsimp := false, implicitDefEqProofs := false, maxSteps := 5000000 }) only [haw, hst, opConvert, hrem, hR, hR0, hD, un_neg, hneg, ha1, hsh6, hrem6, hT', hS, hrem7, m7, w7, hss, hl, hz, hz', f2, go_sem, Nat.reduceEqDiff, Nat.reduceAdd, Nat.reduceLeDiff, Nat.reduceMul, Nat.reduceLT, Nat.reduceBEq, Int.reduceLT, Int.reduceLE, Int.reduceToNat, Int.reduceAdd, Int.reduceSub, Int.reduceEq, Int.reduceNeg, ↓reduceIte]
  · have f2 := h2 false M07 sm07 1
    have e : backM M07 1 = (zeroM, 2100) := step_no (k := 1) (s := ⟨5, 1, 1, [⟨2, 0, 0, 1⟩, ⟨3, 0, 1, 0⟩], 0, 0, ⟨0, 0, 0, 0⟩, [], [], 0, 0, 0, 0, 0⟩) rfl (by decide)
    rw [e, zero_o] at f2
    refine sp_of rfl 0 (by rfl) ?_
    delta c10
    simp (config := { contextual := true, dsimp := false, implicitDefEqProofs := false, maxSteps := 5000000 }) only [haw, hst, opConvert, hrem, hR, hR0, hD, hz, f2, go_sem, Nat.reduceEqDiff, Nat.reduceAdd, Nat.reduceLeDiff, Nat.reduceMul, Nat.reduceLT, Nat.reduceBEq, Int.reduceLT, Int.reduceLE, Int.reduceToNat, Int.reduceAdd, Int.reduceSub, Int.reduceEq, Int.reduceNeg, ↓reduceIte]
  · have key : ∀ r : A4 Int, regsMay r = false → pureOf (Lv ctx (i + 23)) 29 [eM false (M07s 4 r), iV 0] = some (.tup [oM zeroM, iV 2100]) := by
      intro r h
      have e : backM (M07s 4 r) 0 = (zeroM, 2100) := here_back (here_sess (List.mem_cons_self ..) h)
      rw [h2 false (M07s 4 r) (sm07s _ _) 0, e]
    have hS := inR_le.1 (mask_in x 3 (by omega))
    have hn := neg_no (c := 255) hD1.1
    obtain hS | hS | hS | hS : andI x 3 = 0 ∨ andI x 3 = 1 ∨ andI x 3 = 2 ∨ andI x 3 = 3 := by simp at hS; omega
    · have f2 := key ⟨-D, 0, 0, 0⟩ (by simp [regsMay, A4.all, hn])
      rw [zero_o] at f2
      simp only [M07s, eM, cM, eWs, eSs, eEs, eIs, eRs, eWrs, List.map_cons, List.map_nil, eS, eI, eR, eWr] at f2
      refine sp_of rfl 0 (by rfl) ?_
      delta c10
      simp (config := { contextual := true, dsimp := false, implicitDefEqProofs := false, maxSteps := 5000000 }) only [haw, hst, opConvert, hrem, hR, hR0, hD, un_neg, hneg, hS, hss, hl, hz, hz', f2, go_sem, Nat.reduceEqDiff, Nat.reduceAdd, Nat.reduceLeDiff, Nat.reduceMul, Nat.reduceLT, Nat.reduceBEq, Int.reduceLT, Int.reduceLE, Int.reduceToNat, Int.reduceAdd, Int.reduceSub, Int.reduceEq, Int.reduceNeg, ↓reduceIte]
    · have f2 := key ⟨10, -D, 0, 0⟩ (by simp [regsMay, A4.all, hn])
      rw [zero_o] at f2
      simp only [M07s, eM, cM, eWs, eSs, eEs, eIs, eRs, eWrs, List.map_cons, List.map_nil, eS, eI, eR, eWr] at f2
      refine sp_of rfl 0 (by rfl) ?_
      delta c10
      simp (config := { contextual := true, dsimp := false, implicitDefEqProofs := false, maxSteps := 5000000 }) only [haw, hst, opConvert, hrem, hR, hR0, hD, un_neg, hneg, hS, hss, hl, hz, hz', f2, go_sem, Nat.reduceEqDiff, Nat.reduceAdd, Nat.reduceLeDiff, Nat.reduceMul, Nat.reduceLT, Nat.reduceBEq, Int.reduceLT, Int.reduceLE, Int.reduceToNat, Int.reduceAdd, Int.reduceSub, Int.reduceEq, Int.reduceNeg, ↓reduceIte]
    · have f2 := key ⟨10, 0, -D, 0⟩ (by simp [regsMay, A4.all, hn])
      rw [zero_o] at f2
      simp only [M07s, eM, cM, eWs, eSs, eEs, eIs, eRs, eWrs, List.map_cons, List.map_nil, eS, eI, eR, eWr] at f2
      refine sp_of rfl 0 (by rfl) ?_
      delta c10
      simp (config := { contextual := true, dsimp := false, implicitDefEqProofs := false, maxSteps := 5000000 }) only [haw, hst, opConvert, hrem, hR, hR0, hD, un_neg, hneg, hS, hss, hl, hz, hz', f2, go_sem, Nat.reduceEqDiff, Nat.reduceAdd, Nat.reduceLeDiff, Nat.reduceMul, Nat.reduceLT, Nat.reduceBEq, Int.reduceLT, Int.reduceLE, Int.reduceToNat, Int.reduceAdd, Int.reduceSub, Int.reduceEq, Int.reduceNeg, ↓reduceIte]
    · have f2 := key ⟨10, 0, 0, -D⟩ (by simp [regsMay, A4.all, hn])
      rw [zero_o] at f2
      simp only [M07s, eM, cM, eWs, eSs, eEs, eIs, eRs, eWrs, List.map_cons, List.map_nil, eS, eI, eR, eWr] at f2
      refine sp_of rfl 0 (by rfl) ?_
      delta c10
      simp (config := { contextual := true, dsimp := false, implicitDefEqProofs := false, maxSteps := 5000000 }) only [haw, hst, opConvert, hrem, hR, hR0, hD, un_neg, hneg, hS, hss, hl, hz, hz', f2, go_sem, Nat.reduceEqDiff, Nat.reduceAdd, Nat.reduceLeDiff, Nat.reduceMul, Nat.reduceLT, Nat.reduceBEq, Int.reduceLT, Int.reduceLE, Int.reduceToNat, Int.reduceAdd, Int.reduceSub, Int.reduceEq, Int.reduceNeg, ↓reduceIte]
end Ve
