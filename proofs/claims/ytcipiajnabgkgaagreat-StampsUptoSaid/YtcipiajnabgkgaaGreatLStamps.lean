/- The statement Stamps, but for awake. -/
import Derived.Test.YtcipiajnabgkgaaGreatS35
import Derived.Test.YtcipiajnabgkgaaGreatS20
set_option linter.all false
set_option linter.unusedSectionVars false
namespace Ve
open Go Ve.Ab
set_option maxHeartbeats 16000000
set_option maxRecDepth 20000
theorem sm_stamp {m : TMach} (hm : SmM m) (at_ : Int) : SmM (stampM m at_).1 := by
  unfold stampM
  split
  · rename_i s h
    split
    · exact sm_end hm _ _ _
    · have hs : SmS s := by
        unfold curS at h
        split at h
        · split at h
          · rename_i s' hs'
            split at h
            · cases h; exact hm.s s (List.mem_of_getElem? hs')
            · cases h
          · cases h
        · cases h
      exact sm_set (m := { m with clocks := m.clocks.set s.label (m.clocks.get s.label + 1) }) ⟨hm.b0, hm.b1, hm.b2, hm.b3, hm.bs, hm.bt, hm.s⟩ _ _ ⟨hs.bp, hs.br, hs.bw⟩
  · exact sm_zero
theorem u_Stamps (i : Nat) (m : TMach) (hm : SmM m) (at_ : Int) (haw : pureOf (Lv ctx (i + 23)) 24 [] = some (bV true)) : pureOf (Lv ctx (i + 24)) 4 [eM true m, iV at_] = some (bV true) := by
  have h1 := w_copy (i + 21) true m hm
  have h2 := s_stamp (i + 1) true m hm at_
  have h3 := r_stamp (i + 13) true m hm at_
  have h6 := s_sameMachine (i + 20) false true (stampM m at_).1 (stampM m at_).1 (sm_stamp hm _)
  have h8 := s_sameMachine (i + 20) true true m m hm
  have h9 := s_spoilM (i + 20) (stampM m at_).1 (sm_stamp hm _)
  simp only [Nat.add_assoc, Nat.reduceAdd] at h1 h2 h3 h6 h8 h9
  refine sp_of rfl 0 (by rfl) ?_
  delta c4
  simp +contextual -dsimp -implicitDefEqProofs (maxSteps := 5000000) only [h1, h2, h3, h6, h8, h9, haw, go_sem, simprocAttr]
end Ve
