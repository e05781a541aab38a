/- The program's drifting. -/
import Derived.Test.YtapgmjgledahiaaGreatS25
import Derived.Test.YtapgmjgledahiaaGreatS11
set_option linter.all false
set_option linter.unusedSectionVars false
namespace Ve
open Go Ve.Ab
set_option maxHeartbeats 16000000
set_option maxRecDepth 10000
theorem s_has1 (i : Nat) (p nn : Bool) (a v : Int) : pureOf (Lv ctx (i + 2)) 72 [.isl p nn 1 [iV a], iV v] = some (bV (decide (v = a))) := by
  have h : pureOf (Lv ctx (i + 1)) 117 [.isl p nn 1 [iV a], iV v] = some (iV (if v = a then 0 else -1)) := by
    by_cases h1 : v = a
    · have d1 : decide (v = a) = true := by simpa using h1
      rw [if_pos h1]
      refine sp_of rfl 3 (by rfl) ?_
      delta c117
      simp +contextual -dsimp -implicitDefEqProofs (maxSteps := 5000000) only [d1, gLs, ↓un_c (c117_1.eq_1), go_sem, simprocAttr]
    · have d1 : decide (v = a) = false := by simpa using h1
      rw [if_neg h1]
      refine sp_of rfl 3 (by rfl) ?_
      delta c117
      simp +contextual -dsimp -implicitDefEqProofs (maxSteps := 5000000) only [d1, gLs, ↓un_c (c117_1.eq_1), go_sem, simprocAttr]
  refine sp_of rfl 0 (by rfl) ?_
  delta c72
  by_cases h1 : v = a
  · rw [if_pos h1] at h; have d1 : decide (v = a) = true := by simpa using h1
    simp +contextual -dsimp -implicitDefEqProofs (maxSteps := 5000000) only [h, d1, go_sem, simprocAttr]
  · rw [if_neg h1] at h; have d1 : decide (v = a) = false := by simpa using h1
    simp +contextual -dsimp -implicitDefEqProofs (maxSteps := 5000000) only [h, d1, go_sem, simprocAttr]
/-- at an instruction of this code? -/
def atC (m : TMach) (at_ c : Int) : Bool := match curI m at_ with
  | some (_, x) => decide (x.code = c)
  | none => false
theorem s_at1 (i : Nat) (p pf q nn : Bool) (m : TMach) (hm : SmM m) (at_ c : Int) : pureOf (Lv ctx (i + 21)) 37 [.ip p (cM pf m) 0, iV at_, .isl q nn 1 [iV c]] = some (bV (atC m at_ c)) := by
  have h1 := s_mthere (i + 0) p pf m at_ hm
  have hc := fun v => s_has1 (i + 18) q nn c v
  simp only [Nat.add_assoc, Nat.reduceAdd] at h1 hc
  cases at_cases m at_ with
  | no h =>
    have e : atC m at_ c = false := by unfold atC; rw [cur_no h]
    rw [e]
    refine sp_of rfl 0 (by rfl) ?_
    delta c37
    simp +contextual -dsimp -implicitDefEqProofs (maxSteps := 5000000) only [h1, h, go_sem, simprocAttr]
  | off k s e0 hs hM hS hst =>
    subst e0
    have e : atC m k c = false := by unfold atC; rw [cur_off hs hM hst]
    rw [e]
    have hh := here_k hs hM
    have hk := get_lt hs
    have e1 : (0 ≤ (k : Int)) = True := by simp
    have e2 : ((k : Int) < (m.sess.length : Int)) = True := by simpa using hk
    have z0 : decide (s.step = 0) = false := by simpa using hst
    refine sp_of rfl 0 (by rfl) ?_
    delta c37
    simp +contextual -dsimp -implicitDefEqProofs (maxSteps := 5000000) only [h1, hh, hs, e1, e2, z0, go_sem, simprocAttr]
  | fin k s e0 hs hM hS hst hp =>
    subst e0
    have e : atC m k c = false := by unfold atC; rw [cur_fin hs hM hst hp]
    rw [e]
    have hh := here_k hs hM
    have hk := get_lt hs
    have e1 : (0 ≤ (k : Int)) = True := by simp
    have e2 : ((k : Int) < (m.sess.length : Int)) = True := by simpa using hk
    have z0 : decide (s.step = 0) = true := by simpa using hst
    have z1 : decide ((s.prog.length : Int) < (s.prog.length : Int)) = false := by simp
    refine sp_of rfl 0 (by rfl) ?_
    delta c37
    simp +contextual -dsimp -implicitDefEqProofs (maxSteps := 5000000) only [h1, hh, hs, e1, e2, z0, hp, z1, go_sem, simprocAttr]
  | on k n s x e0 hs hM hS hst hp hn hi =>
    subst e0
    have e : atC m k c = decide (x.code = c) := by unfold atC; rw [cur_on hs hM hst hp hi]
    rw [e]
    have hh := here_k hs hM
    have hk := get_lt hs
    have e1 : (0 ≤ (k : Int)) = True := by simp
    have e2 : ((k : Int) < (m.sess.length : Int)) = True := by simpa using hk
    have z0 : decide (s.step = 0) = true := by simpa using hst
    have p1 : (0 ≤ (n : Int)) = True := by simp
    have p2 : ((n : Int) < (s.prog.length : Int)) = True := by simpa using hn
    have z1 : decide ((n : Int) < (s.prog.length : Int)) = true := by simpa using hn
    refine sp_of rfl 0 (by rfl) ?_
    delta c37
    simp +contextual -dsimp -implicitDefEqProofs (maxSteps := 5000000) only [h1, hh, hs, e1, e2, z0, hp, z1, p1, p2, hi, hc, go_sem, simprocAttr]
theorem at_no {m : TMach} {at_ c : Int} (h : curI m at_ = none ∨ ∃ s x, curI m at_ = some (s, x) ∧ ¬ x.code = c) : atC m at_ c = false := by
  unfold atC
  rcases h with h | ⟨s, x, h, hc⟩
  · rw [h]
  · rw [h]; simpa using hc
theorem at_on {m : TMach} {at_ c : Int} {s : TSess} {x : TInst} (h : curI m at_ = some (s, x)) (hc : x.code = c) : atC m at_ c = true := by
  unfold atC; rw [h]; simpa using hc
theorem s_needs (i : Nat) (pf : Bool) (m : TMach) (hm : SmM m) (at_ : Int) : pureOf (Lv ctx (i + 22)) 62 [eM pf m, iV at_] = some (.tup [bV (needsM m at_).1, iV (needsM m at_).2]) := by
  have q := s_at1 (i + 0) pf pf false false m hm at_ 2
  rcases read_cases m at_ with h | ⟨k, n, s, x, rfl, hs, hM, hS, hst, hp, hn, hi, hc, hcur⟩
  · obtain ⟨g1, _, _⟩ := no_read h
    rw [g1]
    rw [at_no h] at q
    simp only [Nat.add_assoc, Nat.reduceAdd] at q
    refine sp_of rfl 0 (by rfl) ?_
    delta c62
    cases pf <;> simp +contextual -dsimp -implicitDefEqProofs (maxSteps := 5000000) only [q, go_sem, simprocAttr]
  · rw [needs_on hcur hc]
    rw [at_on hcur hc] at q
    simp only [Nat.add_assoc, Nat.reduceAdd] at q
    have hk := get_lt hs
    have e1 : (0 ≤ (k : Int)) = True := by simp
    have e2 : ((k : Int) < (m.sess.length : Int)) = True := by simpa using hk
    have p1 : (0 ≤ (n : Int)) = True := by simp
    have p2 : ((n : Int) < (s.prog.length : Int)) = True := by simpa using hn
    refine sp_of rfl 0 (by rfl) ?_
    delta c62
    cases pf <;> simp +contextual -dsimp -implicitDefEqProofs (maxSteps := 5000000) only [q, hs, e1, e2, hp, p1, p2, hi, go_sem, simprocAttr]
end Ve
