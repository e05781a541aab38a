/- The statement ParkForms. -/
import Derived.Test.YtapgmjgledahiaaGreatS44
import Derived.Test.YtapgmjgledahiaaGreatS37
import Derived.Test.YtapgmjgledahiaaGreatPL42
set_option linter.all false
set_option linter.unusedSectionVars false
namespace Ve
open Go Ve.Ab
set_option maxHeartbeats 16000000
set_option maxRecDepth 20000
theorem u_ParkForms (i : Nat) (w x : Int) (haw : pureOf (Lv ctx (i + 23)) 21 [] = some (bV true)) (hpk : pureOf (Lv ctx (i + 23)) 25 [] = some (oM (MPk 9 5 1))) : pureOf (Lv ctx (i + 24)) 5 [iV w, iV x] = some (bV true) := by
  have hz := w_zero (i + 20) true false
  have hz' := w_zero (i + 20) false false
  have h2 : ∀ m a, SmM m → parkM m a = (zeroM, 2200) → pureOf (Lv ctx (i + 23)) 16 [eM false m, iV a] = some (.tup [oM zeroM, iV 2200]) := by
    intro m a hm h
    have := s_park (i + 1) false m hm a
    rw [h] at this
    exact this
  simp only [Nat.add_assoc, Nat.reduceAdd] at hz hz'
  have hrem : ∀ t a, opBin lay .rem t (.lit (.int .u64 a)) (.lit (.int .u64 6)) = some (.lit (.int .u64 (a.tmod 6))) := fun t a => bin_rem (by decide)
  have hshr : ∀ t a, opBin lay .shr t (iV a) (.lit (.int .u64 3)) = some (iV (a.fdiv (2 ^ min (3 : Int).toNat (IntKind.bits .i64)))) := fun t a => bin_shr (by decide)
  have hremT : ∀ t a, opBin lay .rem t (.lit (.int .u64 a)) (.lit (.int .u64 5)) = some (.lit (.int .u64 (a.tmod 5))) := fun t a => bin_rem (by decide)
  have hshu : ∀ t a, opBin lay .shr t (.lit (.int .u64 a)) (.lit (.int .u64 3)) = some (.lit (.int .u64 (a.fdiv (2 ^ min (3 : Int).toNat (IntKind.bits .u64))))) := fun t a => bin_shr (by decide)
  have hT : ∃ T : Int, ((uW w).fdiv (2 ^ min (3 : Int).toNat (IntKind.bits .u64))).tmod 5 = T ∧ 0 ≤ T ∧ T ≤ 5 - 1 := by
    have h := rem_in (a := (uW w).fdiv (2 ^ min (3 : Int).toNat (IntKind.bits .u64))) (b := 5) (Int.fdiv_nonneg (uW_pos w) (by decide)) (by omega)
    exact ⟨_, rfl, h.1, h.2⟩
  obtain ⟨T, hT, hT1⟩ := hT
  have hT' : ((IntKind.wrap .u64 w).fdiv (2 ^ min (3 : Int).toNat (IntKind.bits .u64))).tmod 5 = T := hT
  clear hT
  generalize hE6 : (IntKind.wrap .u64 w).fdiv (2 ^ min (3 : Int).toNat (IntKind.bits .u64)) = E6 at hT'
  have hsh6 : ∀ t, opBin lay .shr t (.lit (.int .u64 (IntKind.wrap .u64 w))) (.lit (.int .u64 3)) = some (.lit (.int .u64 E6)) := fun t => by rw [hshu, hE6]
  clear hshu hE6
  have hR : (IntKind.wrap .u64 w).tmod 6 = (uW w).tmod 6 := rfl
  have hR1 := rem_in (uW_pos w) (b := 6) (by omega)
  generalize (uW w).tmod 6 = R at hR hR1
  have hDin := inR_le.1 (mask_in x 1023 (by omega))
  have hD : IntKind.wrap .i64 (1 + andI x 1023) = 1 + andI x 1023 := wrap_small (by simp at hDin; omega) (by simp at hDin; omega)
  have hD1 : 1 ≤ 1 + andI x 1023 ∧ 1 + andI x 1023 ≤ 1024 := by simp at hDin; omega
  obtain ⟨D, hD, hD1⟩ : ∃ D, IntKind.wrap .i64 (1 + andI x 1023) = D ∧ 1 ≤ D ∧ D ≤ 1024 := ⟨_, hD, hD1⟩
  have hneg : IntKind.wrap .i64 (0 - D) = -D := by rw [Int.zero_sub]; exact wr_id (by omega) (by omega)
  have ha1 : IntKind.wrap .i64 (1 + D) = 1 + D := wrap_small (by omega) (by omega)
  have ha2 : IntKind.wrap .i64 (65535 + D) = 65535 + D := wrap_small (by omega) (by omega)
  generalize hE : w.fdiv (2 ^ min (3 : Int).toNat (IntKind.bits .i64)) = E at hshr
  have hS1 := mask_in E 1 (by omega)
  simp only [cast1] at hS1
  have hsh2 : ∀ t, opBin lay .shr t (iV w) (.lit (.int .u64 3)) = some (iV E) := fun t => by rw [hshr t w, hE]
  clear hshr hE
  have hS := inR_le.1 hS1
  simp only [MPk, oM, cO, oWs, oSs, oEs, oIs, oRs, oWrs, oS, eM, cM, eWs, eSs, eEs, eIs, eRs, eWrs, List.map_cons, List.map_nil, eS, eI, eR, eWr, eW, eE] at hpk
  obtain hR0 | hR0 | hR0 | hR0 | hR0 | hR0 : R = 0 ∨ R = 1 ∨ R = 2 ∨ R = 3 ∨ R = 4 ∨ R = 5 := by omega
  · obtain hS | hS : andI E 1 = 0 ∨ andI E 1 = 1 := by omega
    · skip
      have f2 := h2 (MPk 9 5 1) (-D) (mpk_sm _ _ _) (park_here (here_no (.inl (by omega)) rfl))
      simp only [zero_o, MPk, oM, cO, oWs, oSs, oEs, oIs, oRs, oWrs, oS, eM, cM, eWs, eSs, eEs, eIs, eRs, eWrs, List.map_cons, List.map_nil, eS, eI, eR, eWr, eW, eE] at f2
      refine sp_of rfl 0 (by rfl) ?_
      delta c5
      simp +contextual -dsimp -implicitDefEqProofs (maxSteps := 5000000) only [haw, hpk, opConvert, hrem, hR, hR0, hD, un_neg, hneg, ha1, ha2, hsh2, hS, hz, hz', f2, List.replicate, go_sem, simprocAttr]
    · skip
      have f2 := h2 (MPk 9 5 1) (1 + D) (mpk_sm _ _ _) (park_here (here_no (.inr (by omega)) rfl))
      simp only [zero_o, MPk, oM, cO, oWs, oSs, oEs, oIs, oRs, oWrs, oS, eM, cM, eWs, eSs, eEs, eIs, eRs, eWrs, List.map_cons, List.map_nil, eS, eI, eR, eWr, eW, eE] at f2
      refine sp_of rfl 0 (by rfl) ?_
      delta c5
      simp +contextual -dsimp -implicitDefEqProofs (maxSteps := 5000000) only [haw, hpk, opConvert, hrem, hR, hR0, hD, un_neg, hneg, ha1, ha2, hsh2, hS, hz, hz', f2, List.replicate, go_sem, simprocAttr]
  · skip
    have f2 := h2 (MPk (-D) 5 1) (0) (mpk_sm _ _ _) (park_here (mpk_ceil hD1.1))
    simp only [zero_o, MPk, oM, cO, oWs, oSs, oEs, oIs, oRs, oWrs, oS, eM, cM, eWs, eSs, eEs, eIs, eRs, eWrs, List.map_cons, List.map_nil, eS, eI, eR, eWr, eW, eE] at f2
    refine sp_of rfl 0 (by rfl) ?_
    delta c5
    simp +contextual -dsimp -implicitDefEqProofs (maxSteps := 5000000) only [haw, hpk, opConvert, hrem, hR, hR0, hD, un_neg, hneg, ha1, ha2, hsh2, hS, hz, hz', f2, List.replicate, go_sem, simprocAttr]
  · obtain hS | hS | hS | hS | hS : T = 0 ∨ T = 1 ∨ T = 2 ∨ T = 3 ∨ T = 4 := by omega
    · skip
      have f2 := h2 (MPk 9 1 1) (0) (mpk_sm _ _ _) (by decide +kernel)
      simp only [zero_o, MPk, oM, cO, oWs, oSs, oEs, oIs, oRs, oWrs, oS, eM, cM, eWs, eSs, eEs, eIs, eRs, eWrs, List.map_cons, List.map_nil, eS, eI, eR, eWr, eW, eE] at f2
      refine sp_of rfl 0 (by rfl) ?_
      delta c5
      simp +contextual -dsimp -implicitDefEqProofs (maxSteps := 5000000) only [haw, hpk, opConvert, hrem, hR, hR0, hD, un_neg, hneg, ha1, ha2, hsh2, hS, hz, hz', f2, List.replicate, hsh6, hremT, hT', go_sem, simprocAttr]
    · skip
      have f2 := h2 (MPk 9 2 1) (0) (mpk_sm _ _ _) (by decide +kernel)
      simp only [zero_o, MPk, oM, cO, oWs, oSs, oEs, oIs, oRs, oWrs, oS, eM, cM, eWs, eSs, eEs, eIs, eRs, eWrs, List.map_cons, List.map_nil, eS, eI, eR, eWr, eW, eE] at f2
      refine sp_of rfl 0 (by rfl) ?_
      delta c5
      simp +contextual -dsimp -implicitDefEqProofs (maxSteps := 5000000) only [haw, hpk, opConvert, hrem, hR, hR0, hD, un_neg, hneg, ha1, ha2, hsh2, hS, hz, hz', f2, List.replicate, hsh6, hremT, hT', go_sem, simprocAttr]
    · skip
      have f2 := h2 (MPk 9 3 1) (0) (mpk_sm _ _ _) (by decide +kernel)
      simp only [zero_o, MPk, oM, cO, oWs, oSs, oEs, oIs, oRs, oWrs, oS, eM, cM, eWs, eSs, eEs, eIs, eRs, eWrs, List.map_cons, List.map_nil, eS, eI, eR, eWr, eW, eE] at f2
      refine sp_of rfl 0 (by rfl) ?_
      delta c5
      simp +contextual -dsimp -implicitDefEqProofs (maxSteps := 5000000) only [haw, hpk, opConvert, hrem, hR, hR0, hD, un_neg, hneg, ha1, ha2, hsh2, hS, hz, hz', f2, List.replicate, hsh6, hremT, hT', go_sem, simprocAttr]
    · skip
      have f2 := h2 (MPk 9 4 1) (0) (mpk_sm _ _ _) (by decide +kernel)
      simp only [zero_o, MPk, oM, cO, oWs, oSs, oEs, oIs, oRs, oWrs, oS, eM, cM, eWs, eSs, eEs, eIs, eRs, eWrs, List.map_cons, List.map_nil, eS, eI, eR, eWr, eW, eE] at f2
      refine sp_of rfl 0 (by rfl) ?_
      delta c5
      simp +contextual -dsimp -implicitDefEqProofs (maxSteps := 5000000) only [haw, hpk, opConvert, hrem, hR, hR0, hD, un_neg, hneg, ha1, ha2, hsh2, hS, hz, hz', f2, List.replicate, hsh6, hremT, hT', go_sem, simprocAttr]
    · skip
      have f2 := h2 (MPk 9 6 1) (0) (mpk_sm _ _ _) (by decide +kernel)
      simp only [zero_o, MPk, oM, cO, oWs, oSs, oEs, oIs, oRs, oWrs, oS, eM, cM, eWs, eSs, eEs, eIs, eRs, eWrs, List.map_cons, List.map_nil, eS, eI, eR, eWr, eW, eE] at f2
      refine sp_of rfl 0 (by rfl) ?_
      delta c5
      simp +contextual -dsimp -implicitDefEqProofs (maxSteps := 5000000) only [haw, hpk, opConvert, hrem, hR, hR0, hD, un_neg, hneg, ha1, ha2, hsh2, hS, hz, hz', f2, List.replicate, hsh6, hremT, hT', go_sem, simprocAttr]
  · skip
    have f2 := h2 (MPk 9 0 0) (0) (mpk_sm _ _ _) (by decide +kernel)
    simp only [zero_o, MPk, oM, cO, oWs, oSs, oEs, oIs, oRs, oWrs, oS, eM, cM, eWs, eSs, eEs, eIs, eRs, eWrs, List.map_cons, List.map_nil, eS, eI, eR, eWr, eW, eE] at f2
    refine sp_of rfl 0 (by rfl) ?_
    delta c5
    simp +contextual -dsimp -implicitDefEqProofs (maxSteps := 5000000) only [haw, hpk, opConvert, hrem, hR, hR0, hD, un_neg, hneg, ha1, ha2, hsh2, hS, hz, hz', f2, List.replicate, go_sem, simprocAttr]
  · skip
    have f2 := h2 (MPk 9 0 2) (0) (mpk_sm _ _ _) (by decide +kernel)
    simp only [zero_o, MPk, oM, cO, oWs, oSs, oEs, oIs, oRs, oWrs, oS, eM, cM, eWs, eSs, eEs, eIs, eRs, eWrs, List.map_cons, List.map_nil, eS, eI, eR, eWr, eW, eE] at f2
    refine sp_of rfl 0 (by rfl) ?_
    delta c5
    simp +contextual -dsimp -implicitDefEqProofs (maxSteps := 5000000) only [haw, hpk, opConvert, hrem, hR, hR0, hD, un_neg, hneg, ha1, ha2, hsh2, hS, hz, hz', f2, List.replicate, go_sem, simprocAttr]
  · skip
    have f2 := h2 (MPk 9 5 1) (1) (mpk_sm _ _ _) (by decide +kernel)
    simp only [zero_o, MPk, oM, cO, oWs, oSs, oEs, oIs, oRs, oWrs, oS, eM, cM, eWs, eSs, eEs, eIs, eRs, eWrs, List.map_cons, List.map_nil, eS, eI, eR, eWr, eW, eE] at f2
    refine sp_of rfl 0 (by rfl) ?_
    delta c5
    simp +contextual -dsimp -implicitDefEqProofs (maxSteps := 5000000) only [haw, hpk, opConvert, hrem, hR, hR0, hD, un_neg, hneg, ha1, ha2, hsh2, hS, hz, hz', f2, List.replicate, go_sem, simprocAttr]
end Ve
