/- What the small functions answer. -/
import Derived.Test.YtapgmjgledahiaaGreatVeT
import Derived.Test.YtapgmjgledahiaaGreatVeM
set_option linter.all false
set_option linter.unusedSectionVars false
namespace Ve
open Go Ve.Ab
set_option maxHeartbeats 16000000
set_option maxRecDepth 10000
theorem bin_or {L : Lay} {t : TypeId} {a b : Int} : opBin L .or t (iV a) (iV b) = some (iV (orI a b)) := rfl
theorem bin_and {L : Lay} {t : TypeId} {a b : Int} : opBin L .and t (iV a) (iV b) = some (iV (andI a b)) := rfl
theorem bin_xor {L : Lay} {t : TypeId} {a b : Int} : opBin L .xor t (iV a) (iV b) = some (iV (xorI a b)) := rfl
attribute [go_sem] bin_or bin_and bin_xor

@[go_sem] theorem s_in (i : Nat) (a b : Int) : pureOf (Lv ctx (i + 1)) 136 [iV a, iV b] = some (bV (inR a b)) := by
  refine sp_of rfl 0 (by rfl) ?_
  delta c136
  simp +contextual -dsimp -implicitDefEqProofs (maxSteps := 5000000) only [go_sem, simprocAttr]
  all_goals ((try simp_all [inR]) <;> (try omega))
@[go_sem] theorem s_value (i : Nat) (a : Int) : pureOf (Lv ctx (i + 2)) 135 [iV a] = some (bV (inR a 255)) := by
  refine sp_of rfl 0 (by rfl) ?_
  delta c135
  simp +contextual -dsimp -implicitDefEqProofs (maxSteps := 5000000) only [go_sem, simprocAttr]
@[go_sem] theorem s_clock (i : Nat) (a : Int) : pureOf (Lv ctx (i + 2)) 137 [iV a] = some (bV (inR a 65535)) := by
  refine sp_of rfl 0 (by rfl) ?_
  delta c137
  simp +contextual -dsimp -implicitDefEqProofs (maxSteps := 5000000) only [go_sem, simprocAttr]
@[go_sem] theorem s_id (i : Nat) (a : Int) : pureOf (Lv ctx (i + 2)) 108 [iV a] = some (bV (inR a 254)) := by
  refine sp_of rfl 0 (by rfl) ?_
  delta c108
  simp +contextual -dsimp -implicitDefEqProofs (maxSteps := 5000000) only [go_sem, simprocAttr]
@[go_sem] theorem s_wordMay (i : Nat) (a b c : Int) : pureOf (Lv ctx (i + 3)) 148 [.agg [iV a, iV b, iV c]] = some (bV (wordMay ⟨a, b, c⟩)) := by
  refine sp_of rfl 0 (by rfl) ?_
  delta c148
  simp +contextual -dsimp -implicitDefEqProofs (maxSteps := 5000000) only [go_sem, simprocAttr]
  all_goals ((try simp_all [wordMay]) <;> (try omega))
@[go_sem] theorem s_upTo11 (i : Nat) (a b c : Int) : pureOf (Lv ctx (i + 1)) 124 [iV a, iV b, iV c] = some (bV (decide (b ≤ a) && decide (a ≤ c))) := by
  refine sp_of rfl 0 (by rfl) ?_
  delta c124
  simp +contextual -dsimp -implicitDefEqProofs (maxSteps := 5000000) only [go_sem, simprocAttr]
  all_goals ((try simp_all [inR]) <;> (try omega))
@[go_sem] theorem s_upTo1 (i : Nat) (a b c : Int) : pureOf (Lv ctx (i + 1)) 115 [iV a, iV b, iV c] = some (bV (decide (b ≤ a) && decide (a ≤ c))) := by
  refine sp_of rfl 0 (by rfl) ?_
  delta c115
  simp +contextual -dsimp -implicitDefEqProofs (maxSteps := 5000000) only [go_sem, simprocAttr]
  all_goals ((try simp_all [inR]) <;> (try omega))
@[go_sem] theorem s_rValue (i : Nat) (a : Int) : pureOf (Lv ctx (i + 2)) 127 [iV a] = some (bV (inR a 255)) := by
  refine sp_of rfl 0 (by rfl) ?_
  delta c127
  simp +contextual -dsimp -implicitDefEqProofs (maxSteps := 5000000) only [go_sem, simprocAttr]
  all_goals ((try simp_all [inR]) <;> (try omega))
@[go_sem] theorem s_rClock (i : Nat) (a : Int) : pureOf (Lv ctx (i + 2)) 91 [iV a] = some (bV (inR a 65535)) := by
  refine sp_of rfl 0 (by rfl) ?_
  delta c91
  simp +contextual -dsimp -implicitDefEqProofs (maxSteps := 5000000) only [go_sem, simprocAttr]
  all_goals ((try simp_all [inR]) <;> (try omega))
@[go_sem] theorem s_rId (i : Nat) (a : Int) : pureOf (Lv ctx (i + 2)) 70 [iV a] = some (bV (inR a 254)) := by
  refine sp_of rfl 0 (by rfl) ?_
  delta c70
  simp +contextual -dsimp -implicitDefEqProofs (maxSteps := 5000000) only [go_sem, simprocAttr]
  all_goals ((try simp_all [inR]) <;> (try omega))
@[go_sem] theorem s_rLabel (i : Nat) (a : Int) : pureOf (Lv ctx (i + 2)) 126 [iV a] = some (bV (inR a 3)) := by
  refine sp_of rfl 0 (by rfl) ?_
  delta c126
  simp +contextual -dsimp -implicitDefEqProofs (maxSteps := 5000000) only [go_sem, simprocAttr]
  all_goals ((try simp_all [inR]) <;> (try omega))
@[go_sem] theorem s_rReg (i : Nat) (a : Int) : pureOf (Lv ctx (i + 2)) 153 [iV a] = some (bV (inR a 3)) := by
  refine sp_of rfl 0 (by rfl) ?_
  delta c153
  simp +contextual -dsimp -implicitDefEqProofs (maxSteps := 5000000) only [go_sem, simprocAttr]
  all_goals ((try simp_all [inR]) <;> (try omega))
theorem lt4 (a : Int) : decide (a < 4) = decide (a ≤ 3) := by
  apply decide_eq_decide.mpr; omega
@[go_sem] theorem s_label (i : Nat) (a : Int) : pureOf (Lv ctx (i + 1)) 133 [iV a] = some (bV (inR a 3)) := by
  refine sp_of rfl 0 (by rfl) ?_
  delta c133
  simp +contextual -dsimp -implicitDefEqProofs (maxSteps := 5000000) only [go_sem, simprocAttr]
  all_goals ((try simp_all [inR, lt4]) <;> (try omega))
@[go_sem] theorem s_reg (i : Nat) (a : Int) : pureOf (Lv ctx (i + 1)) 182 [iV a] = some (bV (inR a 3)) := by
  refine sp_of rfl 0 (by rfl) ?_
  delta c182
  simp +contextual -dsimp -implicitDefEqProofs (maxSteps := 5000000) only [go_sem, simprocAttr]
  all_goals ((try simp_all [inR, lt4]) <;> (try omega))
@[go_sem] theorem s_index (i : Nat) (a : Int) : pureOf (Lv ctx (i + 1)) 134 [iV a] = some (bV (inR a 3)) := by
  refine sp_of rfl 0 (by rfl) ?_
  delta c134
  simp +contextual -dsimp -implicitDefEqProofs (maxSteps := 5000000) only [go_sem, simprocAttr]
  all_goals ((try simp_all [inR, lt4]) <;> (try omega))
@[go_sem] theorem s_machin (i : Nat) (a b : Int) : pureOf (Lv ctx (i + 1)) 163 [iV a, iV b] = some (bV (inR a b)) := by
  refine sp_of rfl 0 (by rfl) ?_
  delta c163
  simp +contextual -dsimp -implicitDefEqProofs (maxSteps := 5000000) only [go_sem, simprocAttr]
  all_goals ((try simp_all [inR]) <;> (try omega))
@[go_sem] theorem s_under (i : Nat) (a b : Int) : pureOf (Lv ctx (i + 1)) 104 [iV a, iV b] = some (bV (under a b)) := by
  refine sp_of rfl 0 (by rfl) ?_
  delta c104
  simp +contextual -dsimp -implicitDefEqProofs (maxSteps := 5000000) only [go_sem, simprocAttr]
  all_goals ((try simp_all [under]) <;> (try omega))
@[go_sem] theorem s_rUnder (i : Nat) (a b : Int) : pureOf (Lv ctx (i + 1)) 113 [iV a, iV b] = some (bV (under a b)) := by
  refine sp_of rfl 0 (by rfl) ?_
  delta c113
  simp +contextual -dsimp -implicitDefEqProofs (maxSteps := 5000000) only [go_sem, simprocAttr]
  all_goals ((try simp_all [under]) <;> (try omega))
@[go_sem] theorem s_rWordMay (i : Nat) (a b c : Int) : pureOf (Lv ctx (i + 3)) 89 [.agg [iV a, iV b, iV c]] = some (bV (wordMay ⟨a, b, c⟩)) := by
  refine sp_of rfl 0 (by rfl) ?_
  delta c89
  simp +contextual -dsimp -implicitDefEqProofs (maxSteps := 5000000) only [go_sem, simprocAttr]
  all_goals ((try simp_all [wordMay, inR]) <;> (try omega))
@[go_sem] theorem s_wordName (i : Nat) (a b : Int) : pureOf (Lv ctx (i + 3)) 90 [iV a, iV b] = some (bV (inR a 3 && inR b 3)) := by
  refine sp_of rfl 0 (by rfl) ?_
  delta c90
  simp +contextual -dsimp -implicitDefEqProofs (maxSteps := 5000000) only [go_sem, simprocAttr]
  all_goals ((try simp_all [inR]) <;> (try omega))
@[go_sem] theorem s_wordIs (i : Nat) (a b c d : Int) : pureOf (Lv ctx (i + 1)) 176 [.agg [iV a, iV b, iV c, iV d]] = some (bV (wordIs a)) := by
  refine sp_of rfl 0 (by rfl) ?_
  delta c176
  simp +contextual -dsimp -implicitDefEqProofs (maxSteps := 5000000) only [go_sem, simprocAttr]
  all_goals ((try simp_all [wordIs]) <;> (try omega))
@[go_sem] theorem s_names (i : Nat) (a b c d : Int) : pureOf (Lv ctx (i + 1)) 181 [.agg [iV a, iV b, iV c, iV d]] = some (eI (names ⟨a, b, c, d⟩)) := by
  refine sp_of rfl 0 (by rfl) ?_
  delta c181
  simp +contextual -dsimp -implicitDefEqProofs (maxSteps := 5000000) only [go_sem, simprocAttr]
  all_goals (simp_all [names, eI])
@[go_sem] theorem s_rInstMay (i : Nat) (a b c d : Int) : pureOf (Lv ctx (i + 3)) 168 [.agg [iV a, iV b, iV c, iV d]] = some (bV (instMay ⟨a, b, c, d⟩)) := by
  refine sp_of rfl 0 (by rfl) ?_
  delta c168
  simp +contextual -dsimp -implicitDefEqProofs (maxSteps := 5000000) only [go_sem, simprocAttr]
  all_goals ((try simp_all [instMay, inR, names, Bool.and_assoc]) <;> (try omega))
@[go_sem] theorem s_instMay (i : Nat) (a b c d : Int) : pureOf (Lv ctx (i + 3)) 178 [.agg [iV a, iV b, iV c, iV d]] = some (bV (instMay ⟨a, b, c, d⟩)) := by
  refine sp_of rfl 0 (by rfl) ?_
  delta c178
  simp +contextual -dsimp -implicitDefEqProofs (maxSteps := 5000000) only [go_sem, simprocAttr]
  have hc : a = 0 ∨ a = 1 ∨ a = 2 ∨ a = 3 ∨ a = 4 ∨ a = 5 ∨ a = 6 ∨ (a ≠ 0 ∧ a ≠ 1 ∧ a ≠ 2 ∧ a ≠ 3 ∧ a ≠ 4 ∧ a ≠ 5 ∧ a ≠ 6) := by omega
  rcases hc with rfl | rfl | rfl | rfl | rfl | rfl | rfl | ⟨h0, h1, h2, h3, h4, h5, h6⟩ <;> simp_all [instMay, inR, names, lt4, Bool.and_assoc] <;> (try omega)
end Ve
