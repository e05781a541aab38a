/- What the small functions answer. -/
import Derived.Test.YtjllmdplakoanaaGreatVeT
import Derived.Test.YtjllmdplakoanaaGreatVeM
set_option linter.all false
set_option linter.unusedSectionVars false
namespace Ve
open Go Ve.Ab
set_option maxHeartbeats 16000000
set_option maxRecDepth 10000
theorem bin_or {L : Lay} {t : TypeId} {a b : Int} : opBin L .or t (iV a) (iV b) = some (iV (orI a b)) := rfl
theorem bin_and {L : Lay} {t : TypeId} {a b : Int} : opBin L .and t (iV a) (iV b) = some (iV (andI a b)) := rfl
theorem bin_xor {L : Lay} {t : TypeId} {a b : Int} : opBin L .xor t (iV a) (iV b) = some (iV (xorI a b)) := rfl
attribute [go_sem] bin_or bin_and bin_xor

@[go_sem] theorem s_in (i : Nat) (a b : Int) : pureOf (Lv ctx (i + 1)) 111 [iV a, iV b] = some (bV (inR a b)) := by
  refine sp_of rfl 0 (by rfl) ?_
  delta c111
  simp +contextual -dsimp -implicitDefEqProofs (maxSteps := 5000000) only [go_sem, simprocAttr]
  all_goals ((try simp_all [inR]) <;> (try omega))
@[go_sem] theorem s_value (i : Nat) (a : Int) : pureOf (Lv ctx (i + 2)) 74 [iV a] = some (bV (inR a 255)) := by
  refine sp_of rfl 0 (by rfl) ?_
  delta c74
  simp +contextual -dsimp -implicitDefEqProofs (maxSteps := 5000000) only [go_sem, simprocAttr]
@[go_sem] theorem s_clock (i : Nat) (a : Int) : pureOf (Lv ctx (i + 2)) 141 [iV a] = some (bV (inR a 65535)) := by
  refine sp_of rfl 0 (by rfl) ?_
  delta c141
  simp +contextual -dsimp -implicitDefEqProofs (maxSteps := 5000000) only [go_sem, simprocAttr]
@[go_sem] theorem s_id (i : Nat) (a : Int) : pureOf (Lv ctx (i + 2)) 100 [iV a] = some (bV (inR a 254)) := by
  refine sp_of rfl 0 (by rfl) ?_
  delta c100
  simp +contextual -dsimp -implicitDefEqProofs (maxSteps := 5000000) only [go_sem, simprocAttr]
@[go_sem] theorem s_wordMay (i : Nat) (a b c : Int) : pureOf (Lv ctx (i + 3)) 138 [.agg [iV a, iV b, iV c]] = some (bV (wordMay ⟨a, b, c⟩)) := by
  refine sp_of rfl 0 (by rfl) ?_
  delta c138
  simp +contextual -dsimp -implicitDefEqProofs (maxSteps := 5000000) only [go_sem, simprocAttr]
  all_goals ((try simp_all [wordMay]) <;> (try omega))
@[go_sem] theorem s_upTo11 (i : Nat) (a b c : Int) : pureOf (Lv ctx (i + 1)) 80 [iV a, iV b, iV c] = some (bV (decide (b ≤ a) && decide (a ≤ c))) := by
  refine sp_of rfl 0 (by rfl) ?_
  delta c80
  simp +contextual -dsimp -implicitDefEqProofs (maxSteps := 5000000) only [go_sem, simprocAttr]
  all_goals ((try simp_all [inR]) <;> (try omega))
@[go_sem] theorem s_upTo1 (i : Nat) (a b c : Int) : pureOf (Lv ctx (i + 1)) 104 [iV a, iV b, iV c] = some (bV (decide (b ≤ a) && decide (a ≤ c))) := by
  refine sp_of rfl 0 (by rfl) ?_
  delta c104
  simp +contextual -dsimp -implicitDefEqProofs (maxSteps := 5000000) only [go_sem, simprocAttr]
  all_goals ((try simp_all [inR]) <;> (try omega))
@[go_sem] theorem s_rValue (i : Nat) (a : Int) : pureOf (Lv ctx (i + 2)) 81 [iV a] = some (bV (inR a 255)) := by
  refine sp_of rfl 0 (by rfl) ?_
  delta c81
  simp +contextual -dsimp -implicitDefEqProofs (maxSteps := 5000000) only [go_sem, simprocAttr]
  all_goals ((try simp_all [inR]) <;> (try omega))
@[go_sem] theorem s_rClock (i : Nat) (a : Int) : pureOf (Lv ctx (i + 2)) 103 [iV a] = some (bV (inR a 65535)) := by
  refine sp_of rfl 0 (by rfl) ?_
  delta c103
  simp +contextual -dsimp -implicitDefEqProofs (maxSteps := 5000000) only [go_sem, simprocAttr]
  all_goals ((try simp_all [inR]) <;> (try omega))
@[go_sem] theorem s_rId (i : Nat) (a : Int) : pureOf (Lv ctx (i + 2)) 66 [iV a] = some (bV (inR a 254)) := by
  refine sp_of rfl 0 (by rfl) ?_
  delta c66
  simp +contextual -dsimp -implicitDefEqProofs (maxSteps := 5000000) only [go_sem, simprocAttr]
  all_goals ((try simp_all [inR]) <;> (try omega))
@[go_sem] theorem s_rLabel (i : Nat) (a : Int) : pureOf (Lv ctx (i + 2)) 108 [iV a] = some (bV (inR a 3)) := by
  refine sp_of rfl 0 (by rfl) ?_
  delta c108
  simp +contextual -dsimp -implicitDefEqProofs (maxSteps := 5000000) only [go_sem, simprocAttr]
  all_goals ((try simp_all [inR]) <;> (try omega))
@[go_sem] theorem s_rReg (i : Nat) (a : Int) : pureOf (Lv ctx (i + 2)) 136 [iV a] = some (bV (inR a 3)) := by
  refine sp_of rfl 0 (by rfl) ?_
  delta c136
  simp +contextual -dsimp -implicitDefEqProofs (maxSteps := 5000000) only [go_sem, simprocAttr]
  all_goals ((try simp_all [inR]) <;> (try omega))
theorem lt4 (a : Int) : decide (a < 4) = decide (a ≤ 3) := by
  apply decide_eq_decide.mpr; omega
@[go_sem] theorem s_label (i : Nat) (a : Int) : pureOf (Lv ctx (i + 1)) 73 [iV a] = some (bV (inR a 3)) := by
  refine sp_of rfl 0 (by rfl) ?_
  delta c73
  simp +contextual -dsimp -implicitDefEqProofs (maxSteps := 5000000) only [go_sem, simprocAttr]
  all_goals ((try simp_all [inR, lt4]) <;> (try omega))
@[go_sem] theorem s_reg (i : Nat) (a : Int) : pureOf (Lv ctx (i + 1)) 177 [iV a] = some (bV (inR a 3)) := by
  refine sp_of rfl 0 (by rfl) ?_
  delta c177
  simp +contextual -dsimp -implicitDefEqProofs (maxSteps := 5000000) only [go_sem, simprocAttr]
  all_goals ((try simp_all [inR, lt4]) <;> (try omega))
@[go_sem] theorem s_index (i : Nat) (a : Int) : pureOf (Lv ctx (i + 1)) 140 [iV a] = some (bV (inR a 3)) := by
  refine sp_of rfl 0 (by rfl) ?_
  delta c140
  simp +contextual -dsimp -implicitDefEqProofs (maxSteps := 5000000) only [go_sem, simprocAttr]
  all_goals ((try simp_all [inR, lt4]) <;> (try omega))
@[go_sem] theorem s_machin (i : Nat) (a b : Int) : pureOf (Lv ctx (i + 1)) 155 [iV a, iV b] = some (bV (inR a b)) := by
  refine sp_of rfl 0 (by rfl) ?_
  delta c155
  simp +contextual -dsimp -implicitDefEqProofs (maxSteps := 5000000) only [go_sem, simprocAttr]
  all_goals ((try simp_all [inR]) <;> (try omega))
@[go_sem] theorem s_under (i : Nat) (a b : Int) : pureOf (Lv ctx (i + 1)) 38 [iV a, iV b] = some (bV (under a b)) := by
  refine sp_of rfl 0 (by rfl) ?_
  delta c38
  simp +contextual -dsimp -implicitDefEqProofs (maxSteps := 5000000) only [go_sem, simprocAttr]
  all_goals ((try simp_all [under]) <;> (try omega))
@[go_sem] theorem s_rUnder (i : Nat) (a b : Int) : pureOf (Lv ctx (i + 1)) 41 [iV a, iV b] = some (bV (under a b)) := by
  refine sp_of rfl 0 (by rfl) ?_
  delta c41
  simp +contextual -dsimp -implicitDefEqProofs (maxSteps := 5000000) only [go_sem, simprocAttr]
  all_goals ((try simp_all [under]) <;> (try omega))
@[go_sem] theorem s_rWordMay (i : Nat) (a b c : Int) : pureOf (Lv ctx (i + 3)) 101 [.agg [iV a, iV b, iV c]] = some (bV (wordMay ⟨a, b, c⟩)) := by
  refine sp_of rfl 0 (by rfl) ?_
  delta c101
  simp +contextual -dsimp -implicitDefEqProofs (maxSteps := 5000000) only [go_sem, simprocAttr]
  all_goals ((try simp_all [wordMay, inR]) <;> (try omega))
@[go_sem] theorem s_wordName (i : Nat) (a b : Int) : pureOf (Lv ctx (i + 3)) 102 [iV a, iV b] = some (bV (inR a 3 && inR b 3)) := by
  refine sp_of rfl 0 (by rfl) ?_
  delta c102
  simp +contextual -dsimp -implicitDefEqProofs (maxSteps := 5000000) only [go_sem, simprocAttr]
  all_goals ((try simp_all [inR]) <;> (try omega))
@[go_sem] theorem s_wordIs (i : Nat) (a b c d : Int) : pureOf (Lv ctx (i + 1)) 170 [.agg [iV a, iV b, iV c, iV d]] = some (bV (wordIs a)) := by
  refine sp_of rfl 0 (by rfl) ?_
  delta c170
  simp +contextual -dsimp -implicitDefEqProofs (maxSteps := 5000000) only [go_sem, simprocAttr]
  all_goals ((try simp_all [wordIs]) <;> (try omega))
@[go_sem] theorem s_names (i : Nat) (a b c d : Int) : pureOf (Lv ctx (i + 1)) 176 [.agg [iV a, iV b, iV c, iV d]] = some (eI (names ⟨a, b, c, d⟩)) := by
  refine sp_of rfl 0 (by rfl) ?_
  delta c176
  simp +contextual -dsimp -implicitDefEqProofs (maxSteps := 5000000) only [go_sem, simprocAttr]
  all_goals (simp_all [names, eI])
@[go_sem] theorem s_rInstMay (i : Nat) (a b c d : Int) : pureOf (Lv ctx (i + 3)) 144 [.agg [iV a, iV b, iV c, iV d]] = some (bV (instMay ⟨a, b, c, d⟩)) := by
  refine sp_of rfl 0 (by rfl) ?_
  delta c144
  simp +contextual -dsimp -implicitDefEqProofs (maxSteps := 5000000) only [go_sem, simprocAttr]
  all_goals ((try simp_all [instMay, inR, names, Bool.and_assoc]) <;> (try omega))
@[go_sem] theorem s_instMay (i : Nat) (a b c d : Int) : pureOf (Lv ctx (i + 3)) 172 [.agg [iV a, iV b, iV c, iV d]] = some (bV (instMay ⟨a, b, c, d⟩)) := by
  refine sp_of rfl 0 (by rfl) ?_
  delta c172
  simp +contextual -dsimp -implicitDefEqProofs (maxSteps := 5000000) only [go_sem, simprocAttr]
  have hc : a = 0 ∨ a = 1 ∨ a = 2 ∨ a = 3 ∨ a = 4 ∨ a = 5 ∨ a = 6 ∨ (a ≠ 0 ∧ a ≠ 1 ∧ a ≠ 2 ∧ a ≠ 3 ∧ a ≠ 4 ∧ a ≠ 5 ∧ a ≠ 6) := by omega
  rcases hc with rfl | rfl | rfl | rfl | rfl | rfl | rfl | ⟨h0, h1, h2, h3, h4, h5, h6⟩ <;> simp_all [instMay, inR, names, lt4, Bool.and_assoc] <;> (try omega)
end Ve
