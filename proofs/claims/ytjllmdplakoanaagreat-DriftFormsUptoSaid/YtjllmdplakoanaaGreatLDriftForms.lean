/- The statement DriftForms. -/
import Derived.Test.YtjllmdplakoanaaGreatS40
import Derived.Test.YtjllmdplakoanaaGreatS37
import Derived.Test.YtjllmdplakoanaaGreatPL13
import Derived.Test.YtjllmdplakoanaaGreatAr
set_option linter.all false
set_option linter.unusedSectionVars false
namespace Ve
open Go Ve.Ab
set_option maxHeartbeats 16000000
set_option maxRecDepth 20000
def MS1 : TMach := ⟨⟨[⟨5, 0, 0⟩, ⟨6, 0, 0⟩], [⟨7, 0, 0⟩], [], [⟨9, 0, 0⟩]⟩, ⟨0, 0, 0, 0⟩, 9, [⟨3, 0, 3, [⟨2, 0, 0, 0⟩, ⟨1, 0, 0, 0⟩, ⟨3, 0, 0, 0⟩], 0, 1, ⟨5, 0, 0, 0⟩, [⟨0, 0, 0⟩], [], 0, 0, 0, 0, 0⟩, ⟨5, 1, 1, [⟨2, 0, 0, 1⟩, ⟨3, 0, 1, 0⟩], 0, 0, ⟨0, 0, 0, 0⟩, [], [], 0, 0, 0, 0, 0⟩], [⟨3, 0, 0, 5⟩]⟩
theorem u_DriftForms (i : Nat) (w x : Int) (haw : pureOf (Lv ctx (i + 24)) 20 [] = some (bV true)) (hhi : pureOf (Lv ctx (i + 24)) 24 [iV 3] = some (oM (MHg 9 0 0 ⟨2, 0, 3, 0⟩))) (hbe : pureOf (Lv ctx (i + 24)) 23 [] = some (oM MB)) (hst : pureOf (Lv ctx (i + 24)) 25 [iV 0, iV 1] = some (oM MS1)) : pureOf (Lv ctx (i + 25)) 6 [iV w, iV x] = some (bV true) := by
  have hz := w_zero (i + 21) true false
  have hz' := w_zero (i + 21) false false
  have hn : ∀ c st pc y a, NoR (MHg c st pc y) a → pureOf (Lv ctx (i + 24)) 13 [eM false (MHg c st pc y), iV a] = some (.tup [bV false, iV 1400]) := by
    intro c st pc y a h
    have := s_needs (i + 2) false (MHg c st pc y) (mh_sm _ _ _ _) a
    rw [(no_read h).1] at this
    exact this
  have hd : ∀ c st pc y a, NoR (MHg c st pc y) a → pureOf (Lv ctx (i + 24)) 15 [eM false (MHg c st pc y), iV a] = some (.tup [oM zeroM, iV 1400]) := by
    intro c st pc y a h
    have := s_drift (i + 1) false (MHg c st pc y) (mh_sm _ _ _ _) a
    rw [(no_read h).2.1] at this
    exact this
  have hrn := fun p => r_needs (i + 15) p MB mb_sm 0
  rw [mb_needs] at hrn
  simp only [Nat.add_assoc, Nat.reduceAdd] at hz hz' hrn
  have hrem : ∀ t a, opBin lay .rem t (.lit (.int .u64 a)) (.lit (.int .u64 6)) = some (.lit (.int .u64 (a.tmod 6))) := fun t a => bin_rem (by decide)
  have hshu : ∀ t a, opBin lay .shr t (.lit (.int .u64 a)) (.lit (.int .u64 3)) = some (.lit (.int .u64 (a.fdiv (2 ^ min (3 : Int).toNat (IntKind.bits .u64))))) := fun t a => bin_shr (by decide)
  have hshr : ∀ t a, opBin lay .shr t (iV a) (.lit (.int .u64 3)) = some (iV (a.fdiv (2 ^ min (3 : Int).toNat (IntKind.bits .i64)))) := fun t a => bin_shr (by decide)
  have hT : ∃ T : Int, ((uW w).fdiv (2 ^ min (3 : Int).toNat (IntKind.bits .u64))).tmod 6 = T ∧ 0 ≤ T ∧ T ≤ 5 := by
    have h := rem_in (a := (uW w).fdiv (2 ^ min (3 : Int).toNat (IntKind.bits .u64))) (b := 6) (Int.fdiv_nonneg (uW_pos w) (by decide)) (by omega)
    exact ⟨_, rfl, h.1, h.2⟩
  obtain ⟨T, hT, hT1⟩ := hT
  have hT' : ((IntKind.wrap .u64 w).fdiv (2 ^ min (3 : Int).toNat (IntKind.bits .u64))).tmod 6 = T := hT
  clear hT
  generalize hE6 : (IntKind.wrap .u64 w).fdiv (2 ^ min (3 : Int).toNat (IntKind.bits .u64)) = E6 at hT'
  have hsh6 : ∀ t, opBin lay .shr t (.lit (.int .u64 (IntKind.wrap .u64 w))) (.lit (.int .u64 3)) = some (.lit (.int .u64 E6)) := fun t => by rw [hshu, hE6]
  clear hshu hE6
  have hT6 : IntKind.wrap .i64 T = T := wrap_small (by omega) (by omega)
  have hT7 : IntKind.wrap .i64 (1 + T) = 1 + T := wrap_small (by omega) (by omega)
  have hR : (IntKind.wrap .u64 w).tmod 6 = (uW w).tmod 6 := rfl
  have hR1 := rem_in (uW_pos w) (b := 6) (by omega)
  generalize (uW w).tmod 6 = R at hR hR1
  have hDin := inR_le.1 (mask_in x 1023 (by omega))
  have hD : IntKind.wrap .i64 (1 + andI x 1023) = 1 + andI x 1023 := wrap_small (by simp at hDin; omega) (by simp at hDin; omega)
  have hD1 : 1 ≤ 1 + andI x 1023 ∧ 1 + andI x 1023 ≤ 1024 := by simp at hDin; omega
  obtain ⟨D, hD, hD1⟩ : ∃ D, IntKind.wrap .i64 (1 + andI x 1023) = D ∧ 1 ≤ D ∧ D ≤ 1024 := ⟨_, hD, hD1⟩
  have hneg : IntKind.wrap .i64 (0 - D) = -D := by rw [Int.zero_sub]; exact wr_id (by omega) (by omega)
  have ha1 : IntKind.wrap .i64 (1 + D) = 1 + D := wrap_small (by omega) (by omega)
  generalize hE : w.fdiv (2 ^ min (3 : Int).toNat (IntKind.bits .i64)) = E at hshr
  have hS1 := mask_in E 1 (by omega)
  simp only [cast1] at hS1
  have hsh2 : ∀ t, opBin lay .shr t (iV w) (.lit (.int .u64 3)) = some (iV E) := fun t => by rw [hshr t w, hE]
  clear hshr hE
  have hS := inR_le.1 hS1
  simp only [MHg, MB, MS1, oM, cO, oWs, oSs, oEs, oIs, oRs, oWrs, oS, eM, cM, eWs, eSs, eEs, eIs, eRs, eWrs, List.map_cons, List.map_nil, eS, eI, eR, eWr, eW, eE] at hhi hbe hst hrn
  obtain hR0 | hR0 | hR0 | hR0 | hR0 | hR0 : R = 0 ∨ R = 1 ∨ R = 2 ∨ R = 3 ∨ R = 4 ∨ R = 5 := by omega
  · obtain hS | hS : andI E 1 = 0 ∨ andI E 1 = 1 := by omega
    · skip
      have f1 := hn 9 0 0 ⟨2, 0, 3, 0⟩ (-D) (mh_at (.inl (by omega)))
      have f2 := hd 9 0 0 ⟨2, 0, 3, 0⟩ (-D) (mh_at (.inl (by omega)))
      simp only [zero_o, MHg, eM, cM, eWs, eSs, eEs, eIs, eRs, eWrs, List.map_cons, List.map_nil, eS, eI, eR, eWr, eW, eE] at f1 f2
      refine sp_of rfl 0 (by rfl) ?_
      delta c6
      simp +contextual -dsimp -implicitDefEqProofs (maxSteps := 5000000) only [haw, hhi, hbe, hst, hrn, opConvert, hrem, hR, hR0, hD, un_neg, hneg, ha1, hsh2, hS, hz, hz', f1, f2, List.replicate, go_sem, simprocAttr]
    · skip
      have f1 := hn 9 0 0 ⟨2, 0, 3, 0⟩ (1 + D) (mh_at (.inr (by omega)))
      have f2 := hd 9 0 0 ⟨2, 0, 3, 0⟩ (1 + D) (mh_at (.inr (by omega)))
      simp only [zero_o, MHg, eM, cM, eWs, eSs, eEs, eIs, eRs, eWrs, List.map_cons, List.map_nil, eS, eI, eR, eWr, eW, eE] at f1 f2
      refine sp_of rfl 0 (by rfl) ?_
      delta c6
      simp +contextual -dsimp -implicitDefEqProofs (maxSteps := 5000000) only [haw, hhi, hbe, hst, hrn, opConvert, hrem, hR, hR0, hD, un_neg, hneg, ha1, hsh2, hS, hz, hz', f1, f2, List.replicate, go_sem, simprocAttr]
  · skip
    have f1 := hn (-D) 0 0 ⟨2, 0, 3, 0⟩ 1 (mh_ceil hD1.1)
    have f2 := hd (-D) 0 0 ⟨2, 0, 3, 0⟩ 1 (mh_ceil hD1.1)
    simp only [zero_o, MHg, eM, cM, eWs, eSs, eEs, eIs, eRs, eWrs, List.map_cons, List.map_nil, eS, eI, eR, eWr, eW, eE] at f1 f2
    refine sp_of rfl 0 (by rfl) ?_
    delta c6
    simp +contextual -dsimp -implicitDefEqProofs (maxSteps := 5000000) only [haw, hhi, hbe, hst, hrn, opConvert, hrem, hR, hR0, hD, un_neg, hneg, ha1, hsh2, hS, hz, hz', f1, f2, List.replicate, go_sem, simprocAttr]
  · skip
    have f1 := hn 9 (1 + T) 0 ⟨2, 0, 3, 0⟩ 1 (mh_step (by omega))
    have f2 := hd 9 (1 + T) 0 ⟨2, 0, 3, 0⟩ 1 (mh_step (by omega))
    simp only [zero_o, MHg, eM, cM, eWs, eSs, eEs, eIs, eRs, eWrs, List.map_cons, List.map_nil, eS, eI, eR, eWr, eW, eE] at f1 f2
    refine sp_of rfl 0 (by rfl) ?_
    delta c6
    simp +contextual -dsimp -implicitDefEqProofs (maxSteps := 5000000) only [haw, hhi, hbe, hst, hrn, opConvert, hrem, hR, hR0, hD, un_neg, hneg, ha1, hsh2, hS, hz, hz', f1, f2, List.replicate, hsh6, hT', hT6, hT7, go_sem, simprocAttr]
  · skip
    have f1 := hn 9 0 1 ⟨2, 0, 3, 0⟩ 1 mh_pc
    have f2 := hd 9 0 1 ⟨2, 0, 3, 0⟩ 1 mh_pc
    simp only [zero_o, MHg, eM, cM, eWs, eSs, eEs, eIs, eRs, eWrs, List.map_cons, List.map_nil, eS, eI, eR, eWr, eW, eE] at f1 f2
    refine sp_of rfl 0 (by rfl) ?_
    delta c6
    simp +contextual -dsimp -implicitDefEqProofs (maxSteps := 5000000) only [haw, hhi, hbe, hst, hrn, opConvert, hrem, hR, hR0, hD, un_neg, hneg, ha1, hsh2, hS, hz, hz', f1, f2, List.replicate, go_sem, simprocAttr]
  · skip
    have f1 := hn 9 0 0 ⟨5, 0, 0, 0⟩ 1 (mh_code (by decide))
    have f2 := hd 9 0 0 ⟨5, 0, 0, 0⟩ 1 (mh_code (by decide))
    simp only [zero_o, MHg, eM, cM, eWs, eSs, eEs, eIs, eRs, eWrs, List.map_cons, List.map_nil, eS, eI, eR, eWr, eW, eE] at f1 f2
    refine sp_of rfl 0 (by rfl) ?_
    delta c6
    simp +contextual -dsimp -implicitDefEqProofs (maxSteps := 5000000) only [haw, hhi, hbe, hst, hrn, opConvert, hrem, hR, hR0, hD, un_neg, hneg, ha1, hsh2, hS, hz, hz', f1, f2, List.replicate, go_sem, simprocAttr]
  · skip
    have f1 := hn 9 0 0 ⟨3, 0, 3, 0⟩ 1 (mh_code (by decide))
    have f2 := hd 9 0 0 ⟨3, 0, 3, 0⟩ 1 (mh_code (by decide))
    simp only [zero_o, MHg, eM, cM, eWs, eSs, eEs, eIs, eRs, eWrs, List.map_cons, List.map_nil, eS, eI, eR, eWr, eW, eE] at f1 f2
    refine sp_of rfl 0 (by rfl) ?_
    delta c6
    simp +contextual -dsimp -implicitDefEqProofs (maxSteps := 5000000) only [haw, hhi, hbe, hst, hrn, opConvert, hrem, hR, hR0, hD, un_neg, hneg, ha1, hsh2, hS, hz, hz', f1, f2, List.replicate, go_sem, simprocAttr]
end Ve
