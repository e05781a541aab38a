/- The statement Parks, but for awake. -/
import Derived.Test.YtapgmjgledahiaaGreatS44
import Derived.Test.YtapgmjgledahiaaGreatS20
set_option linter.all false
set_option linter.unusedSectionVars false
namespace Ve
open Go Ve.Ab
set_option maxHeartbeats 16000000
set_option maxRecDepth 20000
theorem sm_park {m : TMach} (hm : SmM m) (at_ : Int) : SmM (parkM m at_).1 := by
  cases at_cases m at_ with
  | no h => rw [park_none (cur_no h) (curS_no h)]; exact sm_zero
  | off k s e0 hs hM hS hst =>
    subst e0
    by_cases h5 : s.step = 5
    · cases hg : (changedM m.words s.reads).1
      · rw [park_stay (cur_off hs hM hst) (curS_on hs hM h5) hg]; exact hm
      · rw [park_wake (cur_off hs hM hst) (curS_on hs hM h5) hg]; exact sm_again hm _ _
    · rw [park_none (cur_off hs hM hst) (curS_off hs hM h5)]; exact sm_zero
  | fin k s e0 hs hM hS hst hp =>
    subst e0
    rw [park_none (cur_fin hs hM hst hp) (curS_off hs hM (by omega))]; exact sm_zero
  | on k n s x e0 hs hM hS hst hp hn hi =>
    subst e0
    have hcur := cur_on hs hM hst hp hi
    have h := hm.s s (List.mem_of_getElem? hs)
    by_cases hc : x.code = 5
    · rw [park_on hcur hc]; exact sm_tell (sm_setS hm k (show SmS { s with writes := [], at_ := 0, step := 5 } from ⟨h.bp, h.br, by simp⟩)) _
    · rw [park_no hcur hc]; exact sm_zero
theorem u_Parks (i : Nat) (m : TMach) (hm : SmM m) (at_ : Int) (haw : pureOf (Lv ctx (i + 23)) 21 [] = some (bV true)) : pureOf (Lv ctx (i + 24)) 3 [eM true m, iV at_] = some (bV true) := by
  have h1 := w_copy (i + 21) true m hm
  have h2 := s_park (i + 1) true m hm at_
  have h3 := r_park (i + 13) true m hm at_
  have h6 := s_sameMachine (i + 20) false true (parkM m at_).1 (parkM m at_).1 (sm_park hm _)
  have h8 := s_sameMachine (i + 20) true true m m hm
  have h9 := s_spoilM (i + 20) (parkM m at_).1 (sm_park hm _)
  simp only [Nat.add_assoc, Nat.reduceAdd] at h1 h2 h3 h6 h8 h9
  refine sp_of rfl 0 (by rfl) ?_
  delta c3
  simp +contextual -dsimp -implicitDefEqProofs (maxSteps := 5000000) only [h1, h2, h3, h6, h8, h9, haw, go_sem, simprocAttr]
end Ve
