/- The statement Fetches, but for awake. -/
import Derived.Test.YtapgmjgledahiaaGreatS47
import Derived.Test.YtapgmjgledahiaaGreatS20
set_option linter.all false
set_option linter.unusedSectionVars false
namespace Ve
open Go Ve.Ab
set_option maxHeartbeats 16000000
set_option maxRecDepth 20000
theorem sm_fetch {m : TMach} (hm : SmM m) (at_ : Int) : SmM (fetchM m at_).1 := by
  rcases read_cases m at_ with h | ⟨k, n, s, x, rfl, hs, hM, hS, hst, hp, hn, hi, hc, hcur⟩
  · rw [(no_read h).2.2]; exact sm_zero
  · have h := hm.s s (List.mem_of_getElem? hs)
    cases hu : under x.b s.label
    · rw [fetch_up hcur hc hu]; exact sm_zero
    · cases hfw : findWrite s.writes x.b x.c with
      | mk v own =>
      cases own
      · by_cases hg : (goodM m.words s.reads s.id).1 = true ∧ (getW m.words x.b x.c).lock = 0
        · rw [fetch_good hcur hc hu hfw rfl hg.1 hg.2]
          refine sm_tell (sm_setS hm k (show SmS (readS s x (withRead s.reads ⟨x.b, x.c, (getW m.words x.b x.c).ver⟩).1 (getW m.words x.b x.c).val) from ⟨h.bp, ?_, h.bw⟩)) _
          have hr := hS.reads
          simp only [readsMay, Bool.and_eq_true, decide_eq_true_eq] at hr
          simp only [readS, withRead]
          split
          · split
            · exact h.br
            · split
              · simp
              · simp; omega
          · simp
        · rw [fetch_bad hcur hc hu hfw rfl hg]; exact sm_again hm _ _
      · rw [fetch_own hcur hc hu hfw]; exact sm_tell (sm_setS hm k (show SmS (readS s x s.reads v) from ⟨h.bp, h.br, h.bw⟩)) _
theorem u_Fetches (i : Nat) (m : TMach) (hm : SmM m) (at_ : Int) (haw : pureOf (Lv ctx (i + 24)) 31 [] = some (bV true)) : pureOf (Lv ctx (i + 25)) 9 [eM true m, iV at_] = some (bV true) := by
  have h1 := w_copy (i + 22) true m hm
  have h2 := s_fetch (i + 1) true m hm at_
  have h3 := r_fetch (i + 14) true m hm at_
  have h6 := s_sameMachine (i + 21) false true (fetchM m at_).1 (fetchM m at_).1 (sm_fetch hm _)
  have h8 := s_sameMachine (i + 21) true true m m hm
  have h9 := s_spoilM (i + 21) (fetchM m at_).1 (sm_fetch hm _)
  simp only [Nat.add_assoc, Nat.reduceAdd] at h1 h2 h3 h6 h8 h9
  refine sp_of rfl 0 (by rfl) ?_
  delta c9
  simp +contextual -dsimp -implicitDefEqProofs (maxSteps := 5000000) only [h1, h2, h3, h6, h8, h9, haw, go_sem, simprocAttr]
end Ve
