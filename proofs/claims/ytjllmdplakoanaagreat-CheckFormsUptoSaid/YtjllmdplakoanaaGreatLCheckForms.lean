/- The statement CheckForms. -/
import Derived.Test.YtjllmdplakoanaaGreatS41
import Derived.Test.YtjllmdplakoanaaGreatS20
import Derived.Test.YtjllmdplakoanaaGreatS37
import Derived.Test.YtjllmdplakoanaaGreatPL9
import Derived.Test.YtjllmdplakoanaaGreatAr
set_option linter.all false
set_option linter.unusedSectionVars false
namespace Ve
open Go Ve.Ab
set_option maxHeartbeats 16000000
set_option maxRecDepth 20000
def M_CheckForms : TMach := MF 4 1 9 3 1 1 ⟨10, 0, 0, 0⟩
theorem u_CheckForms (i : Nat) (w x : Int) (haw : pureOf (Lv ctx (i + 23)) 29 [] = some (bV true)) (hst : pureOf (Lv ctx (i + 23)) 30 [iV 0, iV 6] = some (oM M_CheckForms)) : pureOf (Lv ctx (i + 24)) 9 [iV w, iV x] = some (bV true) := by
  have hz := w_zero (i + 20) true false
  have hz' := w_zero (i + 20) false false
  have h2 : ∀ lk c ceil st at_ sp r a, curS (MF lk c ceil st at_ sp r) a 3 = none → pureOf (Lv ctx (i + 23)) 27 [eM false (MF lk c ceil st at_ sp r), iV a] = some (.tup [oM zeroM, iV 2000]) := by
    intro lk c ceil st at_ sp r a h
    have := s_check (i + 1) false (MF lk c ceil st at_ sp r) (mf_sm _ _ _ _ _ _ _) a
    rw [check_none h] at this
    exact this
  simp only [Nat.add_assoc, Nat.reduceAdd] at hz hz'
  have hrem : ∀ t a, opBin lay .rem t (.lit (.int .u64 a)) (.lit (.int .u64 5)) = some (.lit (.int .u64 (a.tmod 5))) := fun t a => bin_rem (by decide)
  have hrem6 : ∀ t a, opBin lay .rem t (.lit (.int .u64 a)) (.lit (.int .u64 6)) = some (.lit (.int .u64 (a.tmod 6))) := fun t a => bin_rem (by decide)
  have hrem7 : ∀ t a, opBin lay .rem t (iV a) (iV 7) = some (iV (a.tmod 7)) := fun t a => bin_rem (by decide)
  have hshu : ∀ t a, opBin lay .shr t (.lit (.int .u64 a)) (.lit (.int .u64 3)) = some (.lit (.int .u64 (a.fdiv (2 ^ min (3 : Int).toNat (IntKind.bits .u64))))) := fun t a => bin_shr (by decide)
  have hshr : ∀ t a, opBin lay .shr t (iV a) (.lit (.int .u64 3)) = some (iV (a.fdiv (2 ^ min (3 : Int).toNat (IntKind.bits .i64)))) := fun t a => bin_shr (by decide)
  have hT : ∃ T : Int, ((uW w).fdiv (2 ^ min (3 : Int).toNat (IntKind.bits .u64))).tmod 6 = T ∧ 0 ≤ T ∧ T ≤ 5 := by
    have h := rem_in (a := (uW w).fdiv (2 ^ min (3 : Int).toNat (IntKind.bits .u64))) (b := 6) (Int.fdiv_nonneg (uW_pos w) (by decide)) (by omega)
    exact ⟨_, rfl, h.1, h.2⟩
  obtain ⟨T, hT, hT1⟩ := hT
  have hT' : ((IntKind.wrap .u64 w).fdiv (2 ^ min (3 : Int).toNat (IntKind.bits .u64))).tmod 6 = T := hT
  clear hT
  generalize hE6 : (IntKind.wrap .u64 w).fdiv (2 ^ min (3 : Int).toNat (IntKind.bits .u64)) = E6 at hT'
  have hsh6 : ∀ t, opBin lay .shr t (.lit (.int .u64 (IntKind.wrap .u64 w))) (.lit (.int .u64 3)) = some (.lit (.int .u64 E6)) := fun t => by rw [hshu, hE6]
  clear hshu hE6
  have hR : (IntKind.wrap .u64 w).tmod 5 = (uW w).tmod 5 := rfl
  have hR1 := rem_in (uW_pos w) (b := 5) (by omega)
  generalize (uW w).tmod 5 = R at hR hR1
  have hDin := inR_le.1 (mask_in x 1023 (by omega))
  have hD : IntKind.wrap .i64 (1 + andI x 1023) = 1 + andI x 1023 := wrap_small (by simp at hDin; omega) (by simp at hDin; omega)
  have hD1 : 1 ≤ 1 + andI x 1023 ∧ 1 + andI x 1023 ≤ 1024 := by simp at hDin; omega
  obtain ⟨D, hD, hD1⟩ : ∃ D, IntKind.wrap .i64 (1 + andI x 1023) = D ∧ 1 ≤ D ∧ D ≤ 1024 := ⟨_, hD, hD1⟩
  have hneg : IntKind.wrap .i64 (0 - D) = -D := by rw [Int.zero_sub]; exact wr_id (by omega) (by omega)
  have ha1 : IntKind.wrap .i64 (1 + D) = 1 + D := wrap_small (by omega) (by omega)
  generalize hE : w.fdiv (2 ^ min (3 : Int).toNat (IntKind.bits .i64)) = E at hshr
  have hS1 := mask_in E 1 (by omega)
  simp only [cast1] at hS1
  have hsh2 : ∀ t, opBin lay .shr t (iV w) (.lit (.int .u64 3)) = some (iV E) := fun t => by rw [hshr t w, hE]
  clear hshr hE
  have hS := inR_le.1 hS1
  have hS4 := inR_le.1 (mask_in x 3 (by omega))
  have hn := neg_no (c := 255) hD1.1
  simp only [M_CheckForms, MF, oM, cO, oWs, oSs, oEs, oIs, oRs, oWrs, oS, List.map_cons, List.map_nil, eI, eR, eWr, eW, eE] at hst
  obtain hR0 | hR0 | hR0 | hR0 | hR0 : R = 0 ∨ R = 1 ∨ R = 2 ∨ R = 3 ∨ R = 4 := by omega
  · obtain hS | hS : andI E 1 = 0 ∨ andI E 1 = 1 := by omega
    · have f2 := h2 4 1 (9) (3) 1 1 ⟨10, 0, 0, 0⟩ (-D) (mf_at (.inl (by omega)))
      simp only [zero_o, MF, eM, cM, eWs, eSs, eEs, eIs, eRs, eWrs, List.map_cons, List.map_nil, eS, eI, eR, eWr, eW, eE] at f2
      refine sp_of rfl 0 (by rfl) ?_
      delta c9
      simp +contextual -dsimp -implicitDefEqProofs (maxSteps := 5000000) only [haw, hst, opConvert, hrem, hR, hR0, hD, un_neg, hneg, ha1, hsh2, hS, hz, hz', f2, List.replicate, go_sem, simprocAttr]
    · have f2 := h2 4 1 (9) (3) 1 1 ⟨10, 0, 0, 0⟩ (1 + D) (mf_at (.inr (by omega)))
      simp only [zero_o, MF, eM, cM, eWs, eSs, eEs, eIs, eRs, eWrs, List.map_cons, List.map_nil, eS, eI, eR, eWr, eW, eE] at f2
      refine sp_of rfl 0 (by rfl) ?_
      delta c9
      simp +contextual -dsimp -implicitDefEqProofs (maxSteps := 5000000) only [haw, hst, opConvert, hrem, hR, hR0, hD, un_neg, hneg, ha1, hsh2, hS, hz, hz', f2, List.replicate, go_sem, simprocAttr]
  · have f2 := h2 4 1 (-D) (3) 1 1 ⟨10, 0, 0, 0⟩ (0) (mf_ceil hD1.1)
    simp only [zero_o, MF, eM, cM, eWs, eSs, eEs, eIs, eRs, eWrs, List.map_cons, List.map_nil, eS, eI, eR, eWr, eW, eE] at f2
    refine sp_of rfl 0 (by rfl) ?_
    delta c9
    simp +contextual -dsimp -implicitDefEqProofs (maxSteps := 5000000) only [haw, hst, opConvert, hrem, hR, hR0, hD, un_neg, hneg, ha1, hsh2, hS, hz, hz', f2, List.replicate, go_sem, simprocAttr]
  · obtain hS | hS | hS | hS | hS | hS : T = 0 ∨ T = 1 ∨ T = 2 ∨ T = 3 ∨ T = 4 ∨ T = 5 := by omega
    · have f2 := h2 4 1 (9) (4) 1 1 ⟨10, 0, 0, 0⟩ (0) (mf_step (by decide))
      have m7 : Int.tmod 4 7 = 4 := rfl
      have w7 : IntKind.wrap .i64 4 = 4 := rfl
      simp only [zero_o, MF, eM, cM, eWs, eSs, eEs, eIs, eRs, eWrs, List.map_cons, List.map_nil, eS, eI, eR, eWr, eW, eE] at f2
      refine sp_of rfl 0 (by rfl) ?_
      delta c9
      simp +contextual -dsimp -implicitDefEqProofs (maxSteps := 5000000) only [haw, hst, opConvert, hrem, hR, hR0, hD, un_neg, hneg, ha1, hsh2, hS, hz, hz', f2, List.replicate, hsh6, hrem6, hT', hrem7, m7, w7, go_sem, simprocAttr]
    · have f2 := h2 4 1 (9) (5) 1 1 ⟨10, 0, 0, 0⟩ (0) (mf_step (by decide))
      have m7 : Int.tmod 5 7 = 5 := rfl
      have w7 : IntKind.wrap .i64 5 = 5 := rfl
      simp only [zero_o, MF, eM, cM, eWs, eSs, eEs, eIs, eRs, eWrs, List.map_cons, List.map_nil, eS, eI, eR, eWr, eW, eE] at f2
      refine sp_of rfl 0 (by rfl) ?_
      delta c9
      simp +contextual -dsimp -implicitDefEqProofs (maxSteps := 5000000) only [haw, hst, opConvert, hrem, hR, hR0, hD, un_neg, hneg, ha1, hsh2, hS, hz, hz', f2, List.replicate, hsh6, hrem6, hT', hrem7, m7, w7, go_sem, simprocAttr]
    · have f2 := h2 4 1 (9) (6) 1 1 ⟨10, 0, 0, 0⟩ (0) (mf_step (by decide))
      have m7 : Int.tmod 6 7 = 6 := rfl
      have w7 : IntKind.wrap .i64 6 = 6 := rfl
      simp only [zero_o, MF, eM, cM, eWs, eSs, eEs, eIs, eRs, eWrs, List.map_cons, List.map_nil, eS, eI, eR, eWr, eW, eE] at f2
      refine sp_of rfl 0 (by rfl) ?_
      delta c9
      simp +contextual -dsimp -implicitDefEqProofs (maxSteps := 5000000) only [haw, hst, opConvert, hrem, hR, hR0, hD, un_neg, hneg, ha1, hsh2, hS, hz, hz', f2, List.replicate, hsh6, hrem6, hT', hrem7, m7, w7, go_sem, simprocAttr]
    · have f2 := h2 4 1 (9) (0) 1 1 ⟨10, 0, 0, 0⟩ (0) (mf_step (by decide))
      have m7 : Int.tmod 7 7 = 0 := rfl
      have w7 : IntKind.wrap .i64 7 = 7 := rfl
      simp only [zero_o, MF, eM, cM, eWs, eSs, eEs, eIs, eRs, eWrs, List.map_cons, List.map_nil, eS, eI, eR, eWr, eW, eE] at f2
      refine sp_of rfl 0 (by rfl) ?_
      delta c9
      simp +contextual -dsimp -implicitDefEqProofs (maxSteps := 5000000) only [haw, hst, opConvert, hrem, hR, hR0, hD, un_neg, hneg, ha1, hsh2, hS, hz, hz', f2, List.replicate, hsh6, hrem6, hT', hrem7, m7, w7, go_sem, simprocAttr]
    · have f2 := h2 4 1 (9) (1) 1 1 ⟨10, 0, 0, 0⟩ (0) (mf_step (by decide))
      have m7 : Int.tmod 8 7 = 1 := rfl
      have w7 : IntKind.wrap .i64 8 = 8 := rfl
      simp only [zero_o, MF, eM, cM, eWs, eSs, eEs, eIs, eRs, eWrs, List.map_cons, List.map_nil, eS, eI, eR, eWr, eW, eE] at f2
      refine sp_of rfl 0 (by rfl) ?_
      delta c9
      simp +contextual -dsimp -implicitDefEqProofs (maxSteps := 5000000) only [haw, hst, opConvert, hrem, hR, hR0, hD, un_neg, hneg, ha1, hsh2, hS, hz, hz', f2, List.replicate, hsh6, hrem6, hT', hrem7, m7, w7, go_sem, simprocAttr]
    · have f2 := h2 4 1 (9) (2) 1 1 ⟨10, 0, 0, 0⟩ (0) (mf_step (by decide))
      have m7 : Int.tmod 9 7 = 2 := rfl
      have w7 : IntKind.wrap .i64 9 = 9 := rfl
      simp only [zero_o, MF, eM, cM, eWs, eSs, eEs, eIs, eRs, eWrs, List.map_cons, List.map_nil, eS, eI, eR, eWr, eW, eE] at f2
      refine sp_of rfl 0 (by rfl) ?_
      delta c9
      simp +contextual -dsimp -implicitDefEqProofs (maxSteps := 5000000) only [haw, hst, opConvert, hrem, hR, hR0, hD, un_neg, hneg, ha1, hsh2, hS, hz, hz', f2, List.replicate, hsh6, hrem6, hT', hrem7, m7, w7, go_sem, simprocAttr]
  · have f2 := h2 4 1 (9) (3) 1 1 ⟨10, 0, 0, 0⟩ (1) (mf_one (by decide))
    simp only [zero_o, MF, eM, cM, eWs, eSs, eEs, eIs, eRs, eWrs, List.map_cons, List.map_nil, eS, eI, eR, eWr, eW, eE] at f2
    refine sp_of rfl 0 (by rfl) ?_
    delta c9
    simp +contextual -dsimp -implicitDefEqProofs (maxSteps := 5000000) only [haw, hst, opConvert, hrem, hR, hR0, hD, un_neg, hneg, ha1, hsh2, hS, hz, hz', f2, List.replicate, go_sem, simprocAttr]
  · obtain hS | hS | hS | hS : andI x 3 = 0 ∨ andI x 3 = 1 ∨ andI x 3 = 2 ∨ andI x 3 = 3 := by simp at hS4; omega
    · have f2 := h2 4 1 (9) (3) 1 1 ⟨-D, 0, 0, 0⟩ (0) (mf_regs (by simp [regsMay, A4.all, hn]))
      simp only [zero_o, MF, eM, cM, eWs, eSs, eEs, eIs, eRs, eWrs, List.map_cons, List.map_nil, eS, eI, eR, eWr, eW, eE] at f2
      refine sp_of rfl 0 (by rfl) ?_
      delta c9
      simp +contextual -dsimp -implicitDefEqProofs (maxSteps := 5000000) only [haw, hst, opConvert, hrem, hR, hR0, hD, un_neg, hneg, ha1, hsh2, hS, hz, hz', f2, List.replicate, go_sem, simprocAttr]
    · have f2 := h2 4 1 (9) (3) 1 1 ⟨10, -D, 0, 0⟩ (0) (mf_regs (by simp [regsMay, A4.all, hn]))
      simp only [zero_o, MF, eM, cM, eWs, eSs, eEs, eIs, eRs, eWrs, List.map_cons, List.map_nil, eS, eI, eR, eWr, eW, eE] at f2
      refine sp_of rfl 0 (by rfl) ?_
      delta c9
      simp +contextual -dsimp -implicitDefEqProofs (maxSteps := 5000000) only [haw, hst, opConvert, hrem, hR, hR0, hD, un_neg, hneg, ha1, hsh2, hS, hz, hz', f2, List.replicate, go_sem, simprocAttr]
    · have f2 := h2 4 1 (9) (3) 1 1 ⟨10, 0, -D, 0⟩ (0) (mf_regs (by simp [regsMay, A4.all, hn]))
      simp only [zero_o, MF, eM, cM, eWs, eSs, eEs, eIs, eRs, eWrs, List.map_cons, List.map_nil, eS, eI, eR, eWr, eW, eE] at f2
      refine sp_of rfl 0 (by rfl) ?_
      delta c9
      simp +contextual -dsimp -implicitDefEqProofs (maxSteps := 5000000) only [haw, hst, opConvert, hrem, hR, hR0, hD, un_neg, hneg, ha1, hsh2, hS, hz, hz', f2, List.replicate, go_sem, simprocAttr]
    · have f2 := h2 4 1 (9) (3) 1 1 ⟨10, 0, 0, -D⟩ (0) (mf_regs (by simp [regsMay, A4.all, hn]))
      simp only [zero_o, MF, eM, cM, eWs, eSs, eEs, eIs, eRs, eWrs, List.map_cons, List.map_nil, eS, eI, eR, eWr, eW, eE] at f2
      refine sp_of rfl 0 (by rfl) ?_
      delta c9
      simp +contextual -dsimp -implicitDefEqProofs (maxSteps := 5000000) only [haw, hst, opConvert, hrem, hR, hR0, hD, un_neg, hneg, ha1, hsh2, hS, hz, hz', f2, List.replicate, go_sem, simprocAttr]
end Ve
