/- The statement FetchOwn. -/
import Derived.Test.YtapgmjgledahiaaGreatS47
import Derived.Test.YtapgmjgledahiaaGreatS37
import Derived.Test.YtapgmjgledahiaaGreatS20
import Derived.Test.YtapgmjgledahiaaGreatPL43
set_option linter.all false
set_option linter.unusedSectionVars false
namespace Ve
open Go Ve.Ab
set_option maxHeartbeats 16000000
set_option maxRecDepth 20000
theorem u_FetchOwn (i : Nat) (x : Int) (b : Bool) (haw : pureOf (Lv ctx (i + 24)) 31 [] = some (bV true)) (hbe : pureOf (Lv ctx (i + 24)) 33 [] = some (oM MB)) : pureOf (Lv ctx (i + 25)) 11 [iV x, bV b] = some (bV true) := by
  have hv := inR_le.1 (mask_in x 255 (by omega))
  obtain ⟨v, ev, hv⟩ : ∃ v : Int, andI x 255 = v ∧ 0 ≤ v ∧ v ≤ 255 := ⟨_, rfl, hv.1, hv.2⟩
  obtain ⟨n, hn⟩ : ∃ n : _root_.Fin 256, v = ((n.val : Nat) : Int) := ⟨⟨v.toNat, by omega⟩, by simp only []; omega⟩
  have dd : ∀ n : Int, decide (n = n) = true := fun n => by simp
  have k0 := om0 n
  have k6 := om6 n
  rw [← hn] at k0 k6
  have f0 := fun p => s_fetch (i + 1) p (OM v 0 0 0 []) (om_sm _ _ _ _ _ (by simp)) 0
  have f6 := fun p => s_fetch (i + 1) p (OM v 6 0 0 []) (om_sm _ _ _ _ _ (by simp)) 0
  rw [k0] at f0
  rw [k6] at f6
  have q0 := fun p q lk => s_sameArena (i + 22) p q ⟨[⟨5, 0, lk⟩, ⟨6, 0, 0⟩], [⟨7, 0, 0⟩], [], [⟨9, 0, 0⟩]⟩ ⟨[⟨5, 0, lk⟩, ⟨6, 0, 0⟩], [⟨7, 0, 0⟩], [], [⟨9, 0, 0⟩]⟩ (by simp [BB]) (by simp [BB]) (by simp [BB]) (by simp [BB])
  have q1 := fun pa na pb nb => s_sameEvents (i + 23) pa na pb nb [⟨3, 0, 0, v⟩] [⟨3, 0, 0, v⟩] (by simp [BB])
  simp only [decide_true, Nat.add_assoc, Nat.reduceAdd, OM, S50, MB, oM, cO, oWs, oSs, oEs, oIs, oRs, oWrs, oS, eM, cM, eWs, eSs, eEs, eIs, eRs, eWrs, List.map_cons, List.map_nil, eS, eI, eR, eWr, eW, eE] at hbe f0 f6 q0 q1
  cases b
  all_goals
    refine sp_of rfl 0 (by rfl) ?_
    delta c11
    simp +contextual -dsimp -implicitDefEqProofs (maxSteps := 5000000) only [haw, hbe, ev, dd, List.replicate, f0, f6, q0, q1, go_sem, simprocAttr]
end Ve
