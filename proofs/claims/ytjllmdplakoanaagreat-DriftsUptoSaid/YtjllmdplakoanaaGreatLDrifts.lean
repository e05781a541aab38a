/- The statement Drifts, but for awake. -/
import Derived.Test.YtjllmdplakoanaaGreatS40
import Derived.Test.YtjllmdplakoanaaGreatS20
import Derived.Test.YtjllmdplakoanaaGreatPL12
set_option linter.all false
set_option linter.unusedSectionVars false
namespace Ve
open Go Ve.Ab
set_option maxHeartbeats 16000000
set_option maxRecDepth 20000
theorem sm_drift {m : TMach} (hm : SmM m) (at_ : Int) : SmM (driftM m at_).1 := by
  unfold driftM
  split
  · rename_i s x h
    split
    · split
      · exact sm_zero
      · split
        · have hs : m.sess[at_.toNat]? = some s := by
            unfold curI at h
            split at h
            · split at h
              · rename_i s' hs'
                split at h
                · split at h
                  · cases h; exact hs'
                  · cases h
                · cases h
              · cases h
            · cases h
          exact sm_up hm hs
        · exact sm_end hm _ _ _
    · exact sm_zero
  · exact sm_zero
theorem u_Drifts (i : Nat) (m : TMach) (hm : SmM m) (at_ : Int) (haw : pureOf (Lv ctx (i + 24)) 20 [] = some (bV true)) : pureOf (Lv ctx (i + 25)) 3 [eM true m, iV at_] = some (bV true) := by
  have h1 := w_copy (i + 22) true m hm
  have h2 := fun p => s_drift (i + 1) p m hm at_
  have h3 := r_drift (i + 14) true m hm at_
  have h4 := fun p => s_needs (i + 2) p m hm at_
  have h5 := r_needs (i + 15) true m hm at_
  have h6 := s_sameMachine (i + 21) false true (driftM m at_).1 (driftM m at_).1 (sm_drift hm _)
  have h8 := s_sameMachine (i + 21) true true m m hm
  have h9 := s_spoilM (i + 21) (driftM m at_).1 (sm_drift hm _)
  have dd : ∀ b : Bool, (b == b) = true := fun b => by simp
  have hb : ∀ a b : Bool, opBin lay .neq 4 (.lit (.bool a)) (.lit (.bool b)) = some (.lit (.bool (!(a == b)))) := fun a b => rfl
  simp only [Nat.add_assoc, Nat.reduceAdd] at h1 h2 h3 h4 h5 h6 h8 h9
  refine sp_of rfl 0 (by rfl) ?_
  delta c3
  simp +contextual -dsimp -implicitDefEqProofs (maxSteps := 5000000) only [h1, h2, h3, h4, h5, h6, h8, h9, haw, dd, hb, go_sem, simprocAttr]
end Ve
