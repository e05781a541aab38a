/- The statement ParkAlone. -/
import Derived.Test.YtapgmjgledahiaaGreatS44
import Derived.Test.YtapgmjgledahiaaGreatS34
import Derived.Test.YtapgmjgledahiaaGreatS37
import Derived.Test.YtapgmjgledahiaaGreatS20
import Derived.Test.YtapgmjgledahiaaGreatPL43
set_option linter.all false
set_option linter.unusedSectionVars false
namespace Ve
open Go Ve.Ab
set_option maxHeartbeats 16000000
set_option maxRecDepth 20000
theorem u_ParkAlone (i : Nat) (vs : List Int) (hvs : vs.length ≤ 1048576) (haw : pureOf (Lv ctx (i + 23)) 21 [] = some (bV true)) (hbe : pureOf (Lv ctx (i + 23)) 26 [] = some (oM MB)) (hst : pureOf (Lv ctx (i + 23)) 28 [iV 0, iV 0] = some (oM MB)) (hpk : pureOf (Lv ctx (i + 23)) 25 [] = some (oM (MPk 9 5 1))) :
    pureOf (Lv ctx (i + 24)) 8 [.isl true false 1 (vs.map iV)] = some (bV true) := by
  have dd : ∀ n : Int, decide (n = n) = true := fun n => by simp
  have f0 := fun p => s_park (i + 1) p XM0 (xm_sm _ _ _ (by decide) (by decide)) 0
  have f1 := fun p => r_step (i + 11) p XM1 (xm_sm _ _ _ (by decide) (by decide)) 0
  have f2 := fun p => w_copy (i + 21) p XM1 (xm_sm _ _ _ (by decide) (by decide))
  have f3 := fun p q => s_sameMachine (i + 20) p q XM1 XM1 (xm_sm _ _ _ (by decide) (by decide))
  rw [xm0] at f0
  rw [xm1] at f1
  simp only [decide_true, Nat.add_assoc, Nat.reduceAdd, XM0, XM1, XM, MPk, S50, MB, oM, cO, oWs, oSs, oEs, oIs, oRs, oWrs, oS, eM, cM, eWs, eSs, eEs, eIs, eRs, eWrs, List.map_cons, List.map_nil, eS, eI, eR, eWr, eW, eE] at hbe hst hpk f0 f1 f2 f3
  refine sp_of rfl 30 (by rfl) ?_
  delta c8
  simp +contextual -dsimp -implicitDefEqProofs (maxSteps := 5000000) only [haw, hbe, hst, hpk, f0, f1, f2, f3, dd, List.replicate, go_sem, simprocAttr]
  refine gl_each (S := fun j => ⟨ofLive [0, 4, 6] [.isl true false 1 (vs.map iV), .ptr 8 0 0, iV j], _, 9⟩) (min vs.length 20) rfl (by omega) ?_ ?_
  · intro j kk hj hl
    have hj1 : j < vs.length := by omega
    have l1 : decide ((j : Int) < (vs.length : Int)) = true := by simpa using hj1
    have l2 : decide ((j : Int) < 20) = true := by simp; omega
    have l3 := wrN j (by simp only [BB]; omega)
    have l4 : (0 ≤ (j : Int)) = True := by simp
    have p2 : ((j : Int) < (vs.length : Int)) = True := by simpa using hj1
    obtain ⟨x, hx⟩ : ∃ x, vs[j]? = some x := ⟨_, List.getElem?_eq_getElem hj1⟩
    have hv := inR_le.1 (mask_in x 255 (by omega))
    obtain ⟨v, ev, hv⟩ : ∃ v : Int, andI x 255 = v ∧ 0 ≤ v ∧ v ≤ 255 := ⟨_, rfl, hv.1, hv.2⟩
    obtain ⟨vf, hvf⟩ : ∃ n : _root_.Fin 256, v = ((n.val : Nat) : Int) := ⟨⟨v.toNat, by omega⟩, by simp only []; omega⟩
    have hb := inR_le.1 (mask_in (j : Int) 1 (by omega))
    simp only [cast1] at hb
    obtain h | h : andI (j : Int) 1 = 0 ∨ andI (j : Int) 1 = 1 := by omega
    · have k4 := xmA vf
      rw [← hvf] at k4
      have f4 := fun p => s_park (i + 1) p (XM 5 [⟨5, v, 0⟩, ⟨6, 0, 0⟩] [⟨3, 0, 4, 0⟩]) (xm_sm _ _ _ (by simp) (by simp)) 0
      have f5 := fun p q => s_sameMachine (i + 20) p q (XM 5 [⟨5, v, 0⟩, ⟨6, 0, 0⟩] [⟨3, 0, 4, 0⟩]) (XM 5 [⟨5, v, 0⟩, ⟨6, 0, 0⟩] [⟨3, 0, 4, 0⟩]) (xm_sm _ _ _ (by simp) (by simp))
      rw [k4] at f4
      simp only [decide_true, Nat.add_assoc, Nat.reduceAdd, XM, S50, oM, cO, oWs, oSs, oEs, oIs, oRs, oWrs, oS, eM, cM, eWs, eSs, eEs, eIs, eRs, eWrs, List.map_cons, List.map_nil, eS, eI, eR, eWr, eW, eE] at f4 f5
      simp +contextual -dsimp -implicitDefEqProofs (maxSteps := 5000000) only [↓un_c (c8_1.eq_1), l1, l2, l3, l4, hx, ev, h, f2, f4, f5, dd, p2, go_sem, simprocAttr]
      exact gl_norm hl (by rfl)
    · have k4 := xmB vf
      rw [← hvf] at k4
      have f4 := fun p => s_park (i + 1) p (XM 5 [⟨5, 0, 0⟩, ⟨6, v, 0⟩] [⟨3, 0, 4, 0⟩]) (xm_sm _ _ _ (by simp) (by simp)) 0
      have f5 := fun p q => s_sameMachine (i + 20) p q (XM 5 [⟨5, 0, 0⟩, ⟨6, v, 0⟩] [⟨3, 0, 4, 0⟩]) (XM 5 [⟨5, 0, 0⟩, ⟨6, v, 0⟩] [⟨3, 0, 4, 0⟩]) (xm_sm _ _ _ (by simp) (by simp))
      rw [k4] at f4
      simp only [decide_true, Nat.add_assoc, Nat.reduceAdd, XM, S50, oM, cO, oWs, oSs, oEs, oIs, oRs, oWrs, oS, eM, cM, eWs, eSs, eEs, eIs, eRs, eWrs, List.map_cons, List.map_nil, eS, eI, eR, eWr, eW, eE] at f4 f5
      simp +contextual -dsimp -implicitDefEqProofs (maxSteps := 5000000) only [↓un_c (c8_1.eq_1), l1, l2, l3, l4, hx, ev, h, f2, f4, f5, dd, p2, go_sem, simprocAttr]
      exact gl_norm hl (by rfl)
  · intro kk
    by_cases hlen : vs.length ≤ 20
    · have e : min vs.length 20 = vs.length := by omega
      rw [e]
      have l1 : decide ((vs.length : Int) < (vs.length : Int)) = false := by simp
      simp +contextual -dsimp -implicitDefEqProofs (maxSteps := 5000000) only [↓un_c (c8_1.eq_1), l1, f1, f3, hst, hpk, dd, go_sem, simprocAttr]
    · have e : min vs.length 20 = 20 := by omega
      rw [e]
      have l1 : decide ((20 : Int) < (vs.length : Int)) = true := by simp; omega
      simp +contextual -dsimp -implicitDefEqProofs (maxSteps := 5000000) only [↓un_c (c8_1.eq_1), l1, f1, f3, hst, hpk, dd, go_sem, simprocAttr]
end Ve
