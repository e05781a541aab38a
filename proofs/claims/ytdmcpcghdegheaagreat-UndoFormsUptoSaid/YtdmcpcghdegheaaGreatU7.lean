/- The statement UndoForms. -/
import Derived.Test.YtdmcpcghdegheaaGreatU6
set_option linter.all false
set_option linter.unusedSectionVars false
namespace Ve
open Go Ve.Ab
set_option maxRecDepth 10000
set_option linter.unusedSimpArgs false
set_option linter.unusedVariables false
def M05 : TMach := ⟨⟨[⟨5, 0, 4⟩, ⟨6, 0, 0⟩], [⟨7, 0, 0⟩], [], [⟨9, 0, 0⟩]⟩, ⟨0, 0, 0, 0⟩, 9, [⟨3, 0, 3, [⟨2, 0, 0, 0⟩, ⟨1, 0, 0, 0⟩, ⟨3, 0, 0, 0⟩], 2, 3, ⟨10, 0, 0, 0⟩, [⟨0, 0, 0⟩], [⟨0, 0, 10⟩], 1, 0, 0, 0, 0⟩, ⟨5, 1, 1, [⟨2, 0, 0, 1⟩, ⟨3, 0, 1, 0⟩], 0, 0, ⟨0, 0, 0, 0⟩, [], [], 0, 0, 0, 0, 0⟩], [⟨3, 0, 0, 5⟩, ⟨3, 0, 1, 10⟩]⟩
theorem sm05 : SmM M05 := by
  refine ⟨by decide, by decide, by decide, by decide, by decide, by decide, ?_⟩
  intro s hs
  simp only [M05, List.mem_cons, List.mem_nil_iff, or_false] at hs
  rcases hs with rfl | rfl <;> exact ⟨by decide, by decide, by decide⟩
theorem neg_no {D c : Int} (h : 1 ≤ D) : inR (-D) c = false := by
  cases h' : inR (-D) c with
  | false => rfl
  | true => rw [inR_le] at h'; omega
theorem more_no {D c : Int} (h : 1 ≤ D) : inR (c + D) c = false := by
  cases h' : inR (c + D) c with
  | false => rfl
  | true => rw [inR_le] at h'; omega
set_option maxHeartbeats 8000000 in
theorem u_undoForms (i : Nat) (w x : Int) (haw : pureOf (Lv ctx (i + 22)) 22 [] = some (bV true)) (hst : pureOf (Lv ctx (i + 22)) 24 [iV 0, iV 5] = some (oM M05)) : pureOf (Lv ctx (i + 23)) 5 [iV w, iV x] = some (bV true) := by
  have hz := w_zero (i + 19) true false
  have h2 := fun m hm a k => s_again (i + 1) true m hm a k
  have h3 := fun m hm a r t => s_end (i + 1) true m hm a r t
  simp only [Nat.add_assoc, Nat.reduceAdd] at hz h2 h3
  have hne : (4 : Int) ≠ 0 := by decide
  have hrem : ∀ t a, opBin lay .rem t (.lit (.int .u64 a)) (.lit (.int .u64 4)) = some (.lit (.int .u64 (a.tmod 4))) := fun t a => bin_rem hne
  have hshr : ∀ t a, opBin lay .shr t (iV a) (.lit (.int .u64 2)) = some (iV (a.fdiv (2 ^ min (2 : Int).toNat (IntKind.bits .i64)))) := fun t a => bin_shr (by decide)
  have hR : (IntKind.wrap .u64 w).tmod 4 = (uW w).tmod 4 := rfl
  have hRin : inR ((uW w).tmod 4) 3 = true := rem_inR w (b := 4) (by omega)
  generalize (uW w).tmod 4 = R at hR hRin
  have hDin := inR_le.1 (mask_in x 1023 (by omega))
  have hD : IntKind.wrap .i64 (1 + andI x 1023) = 1 + andI x 1023 := wrap_small (by simp at hDin; omega) (by simp at hDin; omega)
  have hD1 : 1 ≤ 1 + andI x 1023 ∧ 1 + andI x 1023 ≤ 1024 := by simp at hDin; omega
  obtain ⟨D, hD, hD1⟩ : ∃ D, IntKind.wrap .i64 (1 + andI x 1023) = D ∧ 1 ≤ D ∧ D ≤ 1024 := ⟨_, hD, hD1⟩
  have hneg : IntKind.wrap .i64 (0 - D) = -D := by rw [Int.zero_sub]; exact wr_id (by omega) (by omega)
  have ha1 : IntKind.wrap .i64 (1 + D) = 1 + D := wrap_small (by omega) (by omega)
  have ha5 : IntKind.wrap .i64 (5 + D) = 5 + D := wrap_small (by omega) (by omega)
  have ha6 : IntKind.wrap .i64 (6 + D) = 6 + D := wrap_small (by omega) (by omega)
  have ha255 : IntKind.wrap .i64 (255 + D) = 255 + D := wrap_small (by omega) (by omega)
  generalize hE : w.fdiv (2 ^ min (2 : Int).toNat (IntKind.bits .i64)) = E at hshr
  have hS1 := mask_in E 1 (by omega)
  have hS7 := mask_in E 7 (by omega)
  simp only [cast1, show ((7 : Nat) : Int) = 7 from rfl] at hS1 hS7
  have hsh2 : ∀ t, opBin lay .shr t (iV w) (.lit (.int .u64 2)) = some (iV E) := fun t => by rw [hshr t w, hE]
  clear hshr hE
  have hl : ((M05.sess.length : Nat) : Int) = 2 := rfl
  have c8 : ((8 : Nat) : Int) = 8 := rfl
  rcases lab_cases R with hR0 | hR0 | hR0 | hR0 | h'
  case inr.inr.inr.inr => rw [hRin] at h'; cases h'
  · have f2 := h2 ⟨M05.words, M05.clocks, -D, M05.sess, M05.trace⟩ ⟨sm05.b0, sm05.b1, sm05.b2, sm05.b3, sm05.bs, sm05.bt, sm05.s⟩ 0 3
    have f3 := h3 ⟨M05.words, M05.clocks, -D, M05.sess, M05.trace⟩ ⟨sm05.b0, sm05.b1, sm05.b2, sm05.b3, sm05.bs, sm05.bt, sm05.s⟩ 0 1 0
    rw [again_no (here_ceil (m := M05) (neg_no hD1.1)), zero_o] at f2
    rw [end_no (here_ceil (m := M05) (neg_no hD1.1)), zero_o] at f3
    refine sp_of rfl 0 (by rfl) ?_
    delta c5
    simp (config := { contextual := true, dsimp := false, implicitDefEqProofs := false, maxSteps := 5000000 }) only [haw, hst, opConvert, hrem, hR, hR0, hD, un_neg, hneg, hz, f2, f3, go_sem, Nat.reduceEqDiff, Nat.reduceAdd, Nat.reduceLeDiff, Nat.reduceMul, Nat.reduceLT, Nat.reduceBEq, Int.reduceLT, Int.reduceLE, Int.reduceToNat, Int.reduceAdd, Int.reduceSub, Int.reduceEq, Int.reduceNeg, ↓reduceIte]
  · have hS := inR_le.1 hS1
    obtain hS | hS : andI E 1 = 0 ∨ andI E 1 = 1 := by omega
    · have f2 := h2 M05 sm05 (-D) 3
      have f3 := h3 M05 sm05 (-D) 1 0
      have hn : hereM M05 (-D) = false := here_at (.inl (by omega))
      rw [again_no hn, zero_o] at f2
      rw [end_no hn, zero_o] at f3
      refine sp_of rfl 0 (by rfl) ?_
      delta c5
      simp (config := { contextual := true, dsimp := false, implicitDefEqProofs := false, maxSteps := 5000000 }) only [haw, hst, opConvert, hrem, hR, hR0, hD, un_neg, hneg, ha1, hsh2, hS, hz, f2, f3, List.replicate, go_sem, Nat.reduceEqDiff, Nat.reduceAdd, Nat.reduceLeDiff, Nat.reduceMul, Nat.reduceLT, Nat.reduceBEq, Int.reduceLT, Int.reduceLE, Int.reduceToNat, Int.reduceAdd, Int.reduceSub, Int.reduceEq, Int.reduceNeg, ↓reduceIte]
    · have f2 := h2 M05 sm05 (1 + D) 3
      have f3 := h3 M05 sm05 (1 + D) 1 0
      have hn : hereM M05 (1 + D) = false := here_at (.inr (by rw [hl]; omega))
      rw [again_no hn, zero_o] at f2
      rw [end_no hn, zero_o] at f3
      refine sp_of rfl 0 (by rfl) ?_
      delta c5
      simp (config := { contextual := true, dsimp := false, implicitDefEqProofs := false, maxSteps := 5000000 }) only [haw, hst, opConvert, hrem, hR, hR0, hD, un_neg, hneg, ha1, hsh2, hS, hz, f2, f3, List.replicate, go_sem, Nat.reduceEqDiff, Nat.reduceAdd, Nat.reduceLeDiff, Nat.reduceMul, Nat.reduceLT, Nat.reduceBEq, Int.reduceLT, Int.reduceLE, Int.reduceToNat, Int.reduceAdd, Int.reduceSub, Int.reduceEq, Int.reduceNeg, ↓reduceIte]
  · have hS := inR_le.1 hS1
    have hT := inR_le.1 hS7
    have kn : ∀ kd : Int, ¬ kd = 3 → ¬ kd = 5 → pureOf (Lv ctx (i + 22)) 15 [eM true M05, iV 0, iV kd] = some (.tup [oM zeroM, iV 1300]) := by
      intro kd e3 e5
      rw [h2 M05 sm05 0 kd, again_bad (by simp [e3, e5])]
    have tn : ∀ t : Int, inR t 255 = false → pureOf (Lv ctx (i + 22)) 17 [eM true M05, iV 0, iV 1, iV t] = some (.tup [oM zeroM, iV 1300]) := by
      intro t e
      rw [h3 M05 sm05 0 1 t, end_bad (by rw [e, Bool.and_false])]
    have t1 := tn (-D) (neg_no hD1.1)
    have t2 := tn (255 + D) (more_no hD1.1)
    have k0 := kn (-D) (by omega) (by omega)
    have k1 := kn 0 (by omega) (by omega)
    have k2 := kn 1 (by omega) (by omega)
    have k3 := kn 2 (by omega) (by omega)
    have k4 := kn 4 (by omega) (by omega)
    have k5 := kn 6 (by omega) (by omega)
    have k6 := kn (6 + D) (by omega) (by omega)
    rw [zero_o] at t1 t2 k0 k1 k2 k3 k4 k5 k6
    obtain hS | hS : andI E 1 = 0 ∨ andI E 1 = 1 := by omega
    all_goals
      obtain hT | hT | hT | hT | hT | hT | hT | hT : andI E 7 = 0 ∨ andI E 7 = 1 ∨ andI E 7 = 2 ∨ andI E 7 = 3 ∨ andI E 7 = 4 ∨ andI E 7 = 5 ∨ andI E 7 = 6 ∨ andI E 7 = 7 := by omega
      all_goals
        refine sp_of rfl 0 (by rfl) ?_
        delta c5
        simp (config := { contextual := true, dsimp := false, implicitDefEqProofs := false, maxSteps := 5000000 }) only [haw, hst, opConvert, hrem, hR, hR0, hD, un_neg, hneg, ha6, ha255, hsh2, hS, hT, hz, t1, t2, k0, k1, k2, k3, k4, k5, k6, c8, List.replicate, go_sem, Nat.reduceEqDiff, Nat.reduceAdd, Nat.reduceLeDiff, Nat.reduceMul, Nat.reduceLT, Nat.reduceBEq, Int.reduceLT, Int.reduceLE, Int.reduceToNat, Int.reduceAdd, Int.reduceSub, Int.reduceEq, Int.reduceNeg, ↓reduceIte]
  · have hS := inR_le.1 hS1
    have f2 := h2 M05 sm05 0 6
    rw [again_bad (by simp), zero_o] at f2
    have rn : ∀ r : Int, inR r 5 = false → pureOf (Lv ctx (i + 22)) 17 [eM true M05, iV 0, iV r, iV 0] = some (.tup [oM zeroM, iV 1300]) := by
      intro r e
      rw [h3 M05 sm05 0 r 0, end_bad (by rw [e, Bool.and_false, Bool.false_and])]
    have r1 := rn (-D) (neg_no hD1.1)
    have r2 := rn (5 + D) (more_no hD1.1)
    rw [zero_o] at r1 r2
    obtain hS | hS : andI E 1 = 0 ∨ andI E 1 = 1 := by omega
    all_goals
      refine sp_of rfl 0 (by rfl) ?_
      delta c5
      simp (config := { contextual := true, dsimp := false, implicitDefEqProofs := false, maxSteps := 5000000 }) only [haw, hst, opConvert, hrem, hR, hR0, hD, un_neg, hneg, ha5, hsh2, hS, hz, f2, r1, r2, List.replicate, go_sem, Nat.reduceEqDiff, Nat.reduceAdd, Nat.reduceLeDiff, Nat.reduceMul, Nat.reduceLT, Nat.reduceBEq, Int.reduceLT, Int.reduceLE, Int.reduceToNat, Int.reduceAdd, Int.reduceSub, Int.reduceEq, Int.reduceNeg, ↓reduceIte]
end Ve
