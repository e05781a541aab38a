/- The statement ParkWaits. -/
import Derived.Test.YtapgmjgledahiaaGreatS44
import Derived.Test.YtapgmjgledahiaaGreatS37
import Derived.Test.YtapgmjgledahiaaGreatS20
import Derived.Test.YtapgmjgledahiaaGreatPL43
set_option linter.all false
set_option linter.unusedSectionVars false
namespace Ve
open Go Ve.Ab
set_option maxHeartbeats 16000000
set_option maxRecDepth 20000
theorem u_ParkWaits (i : Nat) (lv ix vr lk : Int) (haw : pureOf (Lv ctx (i + 23)) 21 [] = some (bV true)) (hpk : pureOf (Lv ctx (i + 23)) 25 [] = some (oM (MPk 9 5 1))) : pureOf (Lv ctx (i + 24)) 6 [iV lv, iV ix, iV vr, iV lk] = some (bV true) := by
  have hv := inR_le.1 (mask_in vr 3 (by omega))
  obtain ⟨v, ev, hv⟩ : ∃ v : Int, andI vr 3 = v ∧ 0 ≤ v ∧ v ≤ 3 := ⟨_, rfl, hv.1, by simpa using hv.2⟩
  have hl := inR_le.1 (mask_in lk 7 (by omega))
  obtain ⟨c, ec, hl⟩ : ∃ v : Int, andI lk 7 = v ∧ 0 ≤ v ∧ v ≤ 7 := ⟨_, rfl, hl.1, by simpa using hl.2⟩
  obtain ⟨cf, hcf⟩ : ∃ n : _root_.Fin 8, c = ((n.val : Nat) : Int) := ⟨⟨c.toNat, by omega⟩, by simp only []; omega⟩
  obtain ⟨vf, hvf⟩ : ∃ n : _root_.Fin 4, v = ((n.val : Nat) : Int) := ⟨⟨v.toNat, by omega⟩, by simp only []; omega⟩
  have hg := inR_le.1 (mask_in lv 3 (by omega))
  have hrem2 : ∀ t a, opBin lay .rem t (.lit (.int .u64 a)) (.lit (.int .u64 2)) = some (.lit (.int .u64 (a.tmod 2))) := fun t a => bin_rem (by decide)
  have hrem1 : ∀ t a, opBin lay .rem t (.lit (.int .u64 a)) (.lit (.int .u64 1)) = some (.lit (.int .u64 0)) := fun t a => by rw [bin_rem (by decide)]; simp
  have hR : (IntKind.wrap .u64 ix).tmod 2 = (uW ix).tmod 2 := rfl
  have hR1 := rem_in (uW_pos ix) (b := 2) (by omega)
  generalize (uW ix).tmod 2 = R at hR hR1
  have w2 : IntKind.wrap .u64 2 = 2 := by decide
  have w1 : IntKind.wrap .u64 1 = 1 := by decide
  have v0 : IntKind.wrap .i64 0 = 0 := by decide
  have v1 : IntKind.wrap .i64 1 = 1 := by decide
  have dd : ∀ n : Int, decide (n = n) = true := fun n => by simp
  have stay : ∀ ws : A4 (List TWord), parkM (MPw ws) 0 = (MPw ws, 0) → SmM (MPw ws) → pureOf (Lv ctx (i + 23)) 16 [eM false (MPw ws), iV 0] = some (.tup [oM (MPw ws), iV 0]) ∧ ∀ p q, pureOf (Lv ctx (i + 23)) 18 [eM p (MPw ws), eM q (MPw ws)] = some (bV true) := by
    intro ws h hm
    have h2 := s_park (i + 1) false (MPw ws) hm 0
    have q := fun p q => s_sameMachine (i + 20) p q (MPw ws) (MPw ws) hm
    rw [h] at h2
    simp only [decide_true] at q
    exact ⟨h2, q⟩
  simp only [MPk, oM, cO, oWs, oSs, oEs, oIs, oRs, oWrs, oS, List.map_cons, List.map_nil, eI, eR, eWr, eW, eE] at hpk
  obtain h0 | h0 | h0 | h0 : andI lv 3 = 0 ∨ andI lv 3 = 1 ∨ andI lv 3 = 2 ∨ andI lv 3 = 3 := by simp at hg; omega
  · obtain hR0 | hR0 : R = 0 ∨ R = 1 := by omega
    · have g := pw0 vf cf
      rw [← hvf, ← hcf] at g
      obtain ⟨f1, f2⟩ := stay _ g (mpw_sm _ (by simp) (by simp) (by simp) (by simp))
      simp only [MPw, MPk, oM, cO, oWs, oSs, oEs, oIs, oRs, oWrs, oS, eM, cM, eWs, eSs, eEs, eIs, eRs, eWrs, List.map_cons, List.map_nil, eS, eI, eR, eWr, eW, eE] at f1 f2
      refine sp_of rfl 0 (by rfl) ?_
      delta c6
      simp +contextual -dsimp -implicitDefEqProofs (maxSteps := 5000000) only [haw, hpk, opConvert, w1, w2, v0, v1, h0, ev, ec, hrem2, hR, hR0, f1, f2, dd, go_sem, simprocAttr]
    · by_cases hv0 : v = 0
      · have g := pw1 cf
        rw [← hcf] at g
        obtain ⟨f1, f2⟩ := stay _ g (mpw_sm _ (by simp) (by simp) (by simp) (by simp))
        simp only [MPw, MPk, oM, cO, oWs, oSs, oEs, oIs, oRs, oWrs, oS, eM, cM, eWs, eSs, eEs, eIs, eRs, eWrs, List.map_cons, List.map_nil, eS, eI, eR, eWr, eW, eE] at f1 f2
        rw [hv0] at ev
        refine sp_of rfl 0 (by rfl) ?_
        delta c6
        simp +contextual -dsimp -implicitDefEqProofs (maxSteps := 5000000) only [haw, hpk, opConvert, w1, w2, v0, v1, h0, ev, ec, hrem2, hR, hR0, f1, f2, dd, go_sem, simprocAttr]
      · obtain ⟨vf, hvf⟩ : ∃ n : _root_.Fin 3, v = ((n.val : Nat) : Int) + 1 := ⟨⟨(v - 1).toNat, by omega⟩, by simp only []; omega⟩
        have z0 : decide (v = 0) = false := by simpa using hv0
        have g := pw1w vf cf
        rw [← hvf, ← hcf] at g
        have hm := mpw_sm (PW1 v c) (by simp) (by simp) (by simp) (by simp)
        have f1 := s_park (i + 1) false (MPw (PW1 v c)) hm 0
        generalize parkM (MPw (PW1 v c)) 0 = r at g f1
        obtain ⟨A, e⟩ := r
        obtain ⟨g1, g2⟩ := g
        simp only at g1 g2
        rw [g1] at f1
        simp only [MPw, MPk, eM, cM, eWs, eSs, eEs, eIs, eRs, eWrs, List.map_cons, List.map_nil, eS, eI, eR, eWr, eW, eE, Nat.add_assoc, Nat.reduceAdd, S50] at f1
        have hA : A.sess[0]? = some S30 := by rw [g2]; rfl
        have al : A.sess.length = 2 := by rw [g2]; rfl
        simp only [S30] at hA
        refine sp_of rfl 0 (by rfl) ?_
        delta c6
        simp +contextual -dsimp -implicitDefEqProofs (maxSteps := 5000000) only [haw, hpk, opConvert, w1, w2, v0, v1, h0, ev, ec, hrem2, hR, hR0, f1, dd, z0, hA, al, go_sem, simprocAttr]
  · have g := pw2 vf cf
    rw [← hvf, ← hcf] at g
    obtain ⟨f1, f2⟩ := stay _ g (mpw_sm _ (by simp) (by simp) (by simp) (by simp))
    simp only [MPw, MPk, oM, cO, oWs, oSs, oEs, oIs, oRs, oWrs, oS, eM, cM, eWs, eSs, eEs, eIs, eRs, eWrs, List.map_cons, List.map_nil, eS, eI, eR, eWr, eW, eE] at f1 f2
    refine sp_of rfl 0 (by rfl) ?_
    delta c6
    simp +contextual -dsimp -implicitDefEqProofs (maxSteps := 5000000) only [haw, hpk, opConvert, w1, w2, v0, v1, h0, ev, ec, hrem1, f1, f2, dd, go_sem, simprocAttr]
  · refine sp_of rfl 0 (by rfl) ?_
    delta c6
    simp +contextual -dsimp -implicitDefEqProofs (maxSteps := 5000000) only [haw, hpk, opConvert, w1, w2, v0, v1, h0, ev, ec, dd, go_sem, simprocAttr]
  · have g := pw3 vf cf
    rw [← hvf, ← hcf] at g
    obtain ⟨f1, f2⟩ := stay _ g (mpw_sm _ (by simp) (by simp) (by simp) (by simp))
    simp only [MPw, MPk, oM, cO, oWs, oSs, oEs, oIs, oRs, oWrs, oS, eM, cM, eWs, eSs, eEs, eIs, eRs, eWrs, List.map_cons, List.map_nil, eS, eI, eR, eWr, eW, eE] at f1 f2
    refine sp_of rfl 0 (by rfl) ?_
    delta c6
    simp +contextual -dsimp -implicitDefEqProofs (maxSteps := 5000000) only [haw, hpk, opConvert, w1, w2, v0, v1, h0, ev, ec, hrem1, f1, f2, dd, go_sem, simprocAttr]
end Ve
