/- The program's look at a session's step. -/
import Derived.Test.YtapgmjgledahiaaGreatS27
set_option linter.all false
set_option linter.unusedSectionVars false
namespace Ve
open Go Ve.Ab
set_option maxHeartbeats 16000000
set_option maxRecDepth 10000
theorem s_is (i : Nat) (p pf : Bool) (m : TMach) (at_ st : Int) (hm : SmM m) : pureOf (Lv ctx (i + 21)) 40 [.ip p (cM pf m) 0, iV at_, iV st] = some (bV (curS m at_ st).isSome) := by
  have h1 := s_mthere (i + 0) p pf m at_ hm
  simp only [Nat.add_assoc, Nat.reduceAdd] at h1
  cases lf_cases m at_ st with
  | no h =>
    rw [curS_no h]
    refine sp_of rfl 0 (by rfl) ?_
    delta c40
    simp +contextual -dsimp -implicitDefEqProofs (maxSteps := 5000000) only [h1, h, Option.isSome_none, go_sem, simprocAttr]
  | off k s e0 hs hM hS hst =>
    subst e0
    rw [curS_off hs hM hst]
    have hh := here_k hs hM
    have hk := get_lt hs
    have e1 : (0 ≤ (k : Int)) = True := by simp
    have e2 : ((k : Int) < (m.sess.length : Int)) = True := by simpa using hk
    have z0 : decide (s.step = st) = false := by simpa using hst
    refine sp_of rfl 0 (by rfl) ?_
    delta c40
    simp +contextual -dsimp -implicitDefEqProofs (maxSteps := 5000000) only [h1, hh, hs, e1, e2, z0, Option.isSome_none, go_sem, simprocAttr]
  | fin k s e0 hs hM hS hst hp =>
    subst e0
    rw [curS_on hs hM hst]
    have hh := here_k hs hM
    have hk := get_lt hs
    have e1 : (0 ≤ (k : Int)) = True := by simp
    have e2 : ((k : Int) < (m.sess.length : Int)) = True := by simpa using hk
    have z0 : decide (s.step = st) = true := by simpa using hst
    refine sp_of rfl 0 (by rfl) ?_
    delta c40
    simp +contextual -dsimp -implicitDefEqProofs (maxSteps := 5000000) only [h1, hh, hs, e1, e2, z0, Option.isSome_some, go_sem, simprocAttr]
  | on k n s w e0 hs hM hS hst hp hn hi =>
    subst e0
    rw [curS_on hs hM hst]
    have hh := here_k hs hM
    have hk := get_lt hs
    have e1 : (0 ≤ (k : Int)) = True := by simp
    have e2 : ((k : Int) < (m.sess.length : Int)) = True := by simpa using hk
    have z0 : decide (s.step = st) = true := by simpa using hst
    refine sp_of rfl 0 (by rfl) ?_
    delta c40
    simp +contextual -dsimp -implicitDefEqProofs (maxSteps := 5000000) only [h1, hh, hs, e1, e2, z0, Option.isSome_some, go_sem, simprocAttr]
end Ve
