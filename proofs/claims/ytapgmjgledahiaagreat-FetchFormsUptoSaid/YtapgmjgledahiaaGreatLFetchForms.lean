/- The statement FetchForms. -/
import Derived.Test.YtapgmjgledahiaaGreatS47
import Derived.Test.YtapgmjgledahiaaGreatS37
import Derived.Test.YtapgmjgledahiaaGreatPL42
set_option linter.all false
set_option linter.unusedSectionVars false
namespace Ve
open Go Ve.Ab
set_option maxHeartbeats 16000000
set_option maxRecDepth 20000
theorem u_FetchForms (i : Nat) (w x : Int) (haw : pureOf (Lv ctx (i + 24)) 31 [] = some (bV true)) (hbe : pureOf (Lv ctx (i + 24)) 33 [] = some (oM (MFt 9 0 0 [⟨2, 0, 0, 0⟩, ⟨1, 0, 0, 0⟩, ⟨3, 0, 0, 0⟩]))) : pureOf (Lv ctx (i + 25)) 13 [iV w, iV x] = some (bV true) := by
  have hz := w_zero (i + 21) true false
  have hz' := w_zero (i + 21) false false
  have h2 : ∀ m a, SmM m → fetchM m a = (zeroM, 1500) → pureOf (Lv ctx (i + 24)) 29 [eM false m, iV a] = some (.tup [oM zeroM, iV 1500]) := by
    intro m a hm h
    have := s_fetch (i + 1) false m hm a
    rw [h] at this
    exact this
  simp only [Nat.add_assoc, Nat.reduceAdd] at hz hz'
  have hrem : ∀ t a, opBin lay .rem t (.lit (.int .u64 a)) (.lit (.int .u64 7)) = some (.lit (.int .u64 (a.tmod 7))) := fun t a => bin_rem (by decide)
  have hshr : ∀ t a, opBin lay .shr t (iV a) (.lit (.int .u64 3)) = some (iV (a.fdiv (2 ^ min (3 : Int).toNat (IntKind.bits .i64)))) := fun t a => bin_shr (by decide)
  have hR : (IntKind.wrap .u64 w).tmod 7 = (uW w).tmod 7 := rfl
  have hR1 := rem_in (uW_pos w) (b := 7) (by omega)
  generalize (uW w).tmod 7 = R at hR hR1
  have hDin := inR_le.1 (mask_in x 1023 (by omega))
  have hD : IntKind.wrap .i64 (1 + andI x 1023) = 1 + andI x 1023 := wrap_small (by simp at hDin; omega) (by simp at hDin; omega)
  have hD1 : 1 ≤ 1 + andI x 1023 ∧ 1 + andI x 1023 ≤ 1024 := by simp at hDin; omega
  obtain ⟨D, hD, hD1⟩ : ∃ D, IntKind.wrap .i64 (1 + andI x 1023) = D ∧ 1 ≤ D ∧ D ≤ 1024 := ⟨_, hD, hD1⟩
  have hneg : IntKind.wrap .i64 (0 - D) = -D := by rw [Int.zero_sub]; exact wr_id (by omega) (by omega)
  have ha1 : IntKind.wrap .i64 (1 + D) = 1 + D := wrap_small (by omega) (by omega)
  have ha2 : IntKind.wrap .i64 (65535 + D) = 65535 + D := wrap_small (by omega) (by omega)
  generalize hE : w.fdiv (2 ^ min (3 : Int).toNat (IntKind.bits .i64)) = E at hshr
  have hS1 := mask_in E 1 (by omega)
  simp only [cast1] at hS1
  have hsh2 : ∀ t, opBin lay .shr t (iV w) (.lit (.int .u64 3)) = some (iV E) := fun t => by rw [hshr t w, hE]
  clear hshr hE
  have hS := inR_le.1 hS1
  simp only [MFt, oM, cO, oWs, oSs, oEs, oIs, oRs, oWrs, oS, eM, cM, eWs, eSs, eEs, eIs, eRs, eWrs, List.map_cons, List.map_nil, eS, eI, eR, eWr, eW, eE] at hbe
  obtain hR0 | hR0 | hR0 | hR0 | hR0 | hR0 | hR0 : R = 0 ∨ R = 1 ∨ R = 2 ∨ R = 3 ∨ R = 4 ∨ R = 5 ∨ R = 6 := by omega
  · obtain hS | hS : andI E 1 = 0 ∨ andI E 1 = 1 := by omega
    · skip
      have f2 := h2 (MFt 9 0 0 [⟨2, 0, 0, 0⟩, ⟨1, 0, 0, 0⟩, ⟨3, 0, 0, 0⟩]) (-D) (mft_sm _ _ _ _ (by decide)) (fetch_here (here_no (.inl (by omega)) rfl))
      simp only [zero_o, MFt, oM, cO, oWs, oSs, oEs, oIs, oRs, oWrs, oS, eM, cM, eWs, eSs, eEs, eIs, eRs, eWrs, List.map_cons, List.map_nil, eS, eI, eR, eWr, eW, eE] at f2
      refine sp_of rfl 0 (by rfl) ?_
      delta c13
      simp +contextual -dsimp -implicitDefEqProofs (maxSteps := 5000000) only [haw, hbe, opConvert, hrem, hR, hR0, hD, un_neg, hneg, ha1, ha2, hsh2, hS, hz, hz', f2, List.replicate, go_sem, simprocAttr]
    · skip
      have f2 := h2 (MFt 9 0 0 [⟨2, 0, 0, 0⟩, ⟨1, 0, 0, 0⟩, ⟨3, 0, 0, 0⟩]) (1 + D) (mft_sm _ _ _ _ (by decide)) (fetch_here (here_no (.inr (by omega)) rfl))
      simp only [zero_o, MFt, oM, cO, oWs, oSs, oEs, oIs, oRs, oWrs, oS, eM, cM, eWs, eSs, eEs, eIs, eRs, eWrs, List.map_cons, List.map_nil, eS, eI, eR, eWr, eW, eE] at f2
      refine sp_of rfl 0 (by rfl) ?_
      delta c13
      simp +contextual -dsimp -implicitDefEqProofs (maxSteps := 5000000) only [haw, hbe, opConvert, hrem, hR, hR0, hD, un_neg, hneg, ha1, ha2, hsh2, hS, hz, hz', f2, List.replicate, go_sem, simprocAttr]
  · skip
    have f2 := h2 (MFt (65535 + D) 0 0 [⟨2, 0, 0, 0⟩, ⟨1, 0, 0, 0⟩, ⟨3, 0, 0, 0⟩]) (0) (mft_sm _ _ _ _ (by decide)) (fetch_here (mft_ceil hD1.1))
    simp only [zero_o, MFt, oM, cO, oWs, oSs, oEs, oIs, oRs, oWrs, oS, eM, cM, eWs, eSs, eEs, eIs, eRs, eWrs, List.map_cons, List.map_nil, eS, eI, eR, eWr, eW, eE] at f2
    refine sp_of rfl 0 (by rfl) ?_
    delta c13
    simp +contextual -dsimp -implicitDefEqProofs (maxSteps := 5000000) only [haw, hbe, opConvert, hrem, hR, hR0, hD, un_neg, hneg, ha1, ha2, hsh2, hS, hz, hz', f2, List.replicate, go_sem, simprocAttr]
  · skip
    have f2 := h2 (MFt 9 1 0 [⟨2, 0, 0, 0⟩, ⟨1, 0, 0, 0⟩, ⟨3, 0, 0, 0⟩]) (0) (mft_sm _ _ _ _ (by decide)) (by decide +kernel)
    simp only [zero_o, MFt, oM, cO, oWs, oSs, oEs, oIs, oRs, oWrs, oS, eM, cM, eWs, eSs, eEs, eIs, eRs, eWrs, List.map_cons, List.map_nil, eS, eI, eR, eWr, eW, eE] at f2
    refine sp_of rfl 0 (by rfl) ?_
    delta c13
    simp +contextual -dsimp -implicitDefEqProofs (maxSteps := 5000000) only [haw, hbe, opConvert, hrem, hR, hR0, hD, un_neg, hneg, ha1, ha2, hsh2, hS, hz, hz', f2, List.replicate, go_sem, simprocAttr]
  · skip
    have f2 := h2 (MFt 9 0 3 [⟨2, 0, 0, 0⟩, ⟨1, 0, 0, 0⟩, ⟨3, 0, 0, 0⟩]) (0) (mft_sm _ _ _ _ (by decide)) (by decide +kernel)
    simp only [zero_o, MFt, oM, cO, oWs, oSs, oEs, oIs, oRs, oWrs, oS, eM, cM, eWs, eSs, eEs, eIs, eRs, eWrs, List.map_cons, List.map_nil, eS, eI, eR, eWr, eW, eE] at f2
    refine sp_of rfl 0 (by rfl) ?_
    delta c13
    simp +contextual -dsimp -implicitDefEqProofs (maxSteps := 5000000) only [haw, hbe, opConvert, hrem, hR, hR0, hD, un_neg, hneg, ha1, ha2, hsh2, hS, hz, hz', f2, List.replicate, go_sem, simprocAttr]
  · skip
    have f2 := h2 (MFt 9 0 1 [⟨2, 0, 0, 0⟩, ⟨1, 0, 0, 0⟩, ⟨3, 0, 0, 0⟩]) (0) (mft_sm _ _ _ _ (by decide)) (by decide +kernel)
    simp only [zero_o, MFt, oM, cO, oWs, oSs, oEs, oIs, oRs, oWrs, oS, eM, cM, eWs, eSs, eEs, eIs, eRs, eWrs, List.map_cons, List.map_nil, eS, eI, eR, eWr, eW, eE] at f2
    refine sp_of rfl 0 (by rfl) ?_
    delta c13
    simp +contextual -dsimp -implicitDefEqProofs (maxSteps := 5000000) only [haw, hbe, opConvert, hrem, hR, hR0, hD, un_neg, hneg, ha1, ha2, hsh2, hS, hz, hz', f2, List.replicate, go_sem, simprocAttr]
  · skip
    have f2 := h2 (MFt 9 0 0 [⟨2, 0, 1, 0⟩]) (0) (mft_sm _ _ _ _ (by decide)) (by decide +kernel)
    simp only [zero_o, MFt, oM, cO, oWs, oSs, oEs, oIs, oRs, oWrs, oS, eM, cM, eWs, eSs, eEs, eIs, eRs, eWrs, List.map_cons, List.map_nil, eS, eI, eR, eWr, eW, eE] at f2
    refine sp_of rfl 0 (by rfl) ?_
    delta c13
    simp +contextual -dsimp -implicitDefEqProofs (maxSteps := 5000000) only [haw, hbe, opConvert, hrem, hR, hR0, hD, un_neg, hneg, ha1, ha2, hsh2, hS, hz, hz', f2, List.replicate, go_sem, simprocAttr]
  · skip
    have f2 := h2 (MFt 9 6 0 [⟨2, 0, 0, 0⟩, ⟨1, 0, 0, 0⟩, ⟨3, 0, 0, 0⟩]) (0) (mft_sm _ _ _ _ (by decide)) (by decide +kernel)
    simp only [zero_o, MFt, oM, cO, oWs, oSs, oEs, oIs, oRs, oWrs, oS, eM, cM, eWs, eSs, eEs, eIs, eRs, eWrs, List.map_cons, List.map_nil, eS, eI, eR, eWr, eW, eE] at f2
    refine sp_of rfl 0 (by rfl) ?_
    delta c13
    simp +contextual -dsimp -implicitDefEqProofs (maxSteps := 5000000) only [haw, hbe, opConvert, hrem, hR, hR0, hD, un_neg, hneg, ha1, ha2, hsh2, hS, hz, hz', f2, List.replicate, go_sem, simprocAttr]
end Ve
