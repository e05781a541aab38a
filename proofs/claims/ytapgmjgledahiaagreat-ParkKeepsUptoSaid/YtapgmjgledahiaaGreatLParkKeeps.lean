/- The statement ParkKeeps. -/
import Derived.Test.YtapgmjgledahiaaGreatS44
import Derived.Test.YtapgmjgledahiaaGreatS34
import Derived.Test.YtapgmjgledahiaaGreatS37
import Derived.Test.YtapgmjgledahiaaGreatS20
import Derived.Test.YtapgmjgledahiaaGreatPL43
set_option linter.all false
set_option linter.unusedSectionVars false
namespace Ve
open Go Ve.Ab
set_option maxHeartbeats 16000000
set_option maxRecDepth 20000
theorem u_ParkKeeps (i : Nat) (x : Int) (haw : pureOf (Lv ctx (i + 23)) 21 [] = some (bV true)) (hbe : pureOf (Lv ctx (i + 23)) 26 [] = some (oM MB)) (hst : pureOf (Lv ctx (i + 23)) 28 [iV 0, iV 0] = some (oM MB)) : pureOf (Lv ctx (i + 24)) 7 [iV x] = some (bV true) := by
  have hv := inR_le.1 (mask_in x 255 (by omega))
  obtain ⟨v, ev, hv⟩ : ∃ v : Int, andI x 255 = v ∧ 0 ≤ v ∧ v ≤ 255 := ⟨_, rfl, hv.1, hv.2⟩
  obtain ⟨n, hn⟩ : ∃ n : _root_.Fin 256, v = ((n.val : Nat) : Int) := ⟨⟨v.toNat, by omega⟩, by simp only []; omega⟩
  have dd : ∀ n : Int, decide (n = n) = true := fun n => by simp
  have k0 := km0 n
  have k1 := km1 n
  have k2 := km2 n
  have k3 := km3 n
  have k4 := km4 n
  rw [← hn] at k0 k1 k2 k3 k4
  have f0 := fun p => r_step (i + 11) p (KM0 v) (km_sm _ _ _ _ _ _ _ (by decide) (by decide) (by decide)) 0
  have f1 := fun p => r_step (i + 11) p (KM1 v) (km_sm _ _ _ _ _ _ _ (by simp) (by simp) (by simp)) 0
  have f2 := fun p => r_step (i + 11) p (KM2 v) (km_sm _ _ _ _ _ _ _ (by simp) (by simp) (by simp)) 0
  have f3 := fun p => s_park (i + 1) p (KM3 v) (km_sm _ _ _ _ _ _ _ (by simp) (by simp) (by simp)) 0
  have f4 := fun p => s_park (i + 1) p (KM4 v) (km_sm _ _ _ _ _ _ _ (by simp) (by simp) (by simp)) 0
  have f5 := fun p q => s_sameMachine (i + 20) p q (KM4 v) (KM4 v) (km_sm _ _ _ _ _ _ _ (by simp) (by simp) (by simp))
  have f6 := fun p q => s_sameArena (i + 21) p q MB.words MB.words (by decide) (by decide) (by decide) (by decide)
  have f7 := fun pa na pb nb => s_sameReads (i + 22) pa na pb nb [⟨0, 1, 0⟩] [⟨0, 1, 0⟩] (by simp [BB])
  rw [k0] at f0
  rw [k1] at f1
  rw [k2] at f2
  rw [k3] at f3
  rw [k4] at f4
  simp only [decide_true, Nat.add_assoc, Nat.reduceAdd, KM0, KM1, KM2, KM3, KM4, KM, S50, MB, oM, cO, oWs, oSs, oEs, oIs, oRs, oWrs, oS, eM, cM, eWs, eSs, eEs, eIs, eRs, eWrs, List.map_cons, List.map_nil, eS, eI, eR, eWr, eW, eE] at hbe hst f0 f1 f2 f3 f4 f5 f6 f7
  refine sp_of rfl 10 (by rfl) ?_
  delta c7
  simp +contextual -dsimp -implicitDefEqProofs (maxSteps := 5000000) only [haw, hbe, hst, ev, dd, List.replicate, gLs, ↓un_c (c7_1.eq_1), f0, f1, f2, f3, f4, f5, f6, f7, go_sem, simprocAttr]
end Ve
