/- What the small functions answer. -/
import Derived.Test.YtdmcpcghdegheaaGreatVeT
import Derived.Test.YtdmcpcghdegheaaGreatVeM
set_option linter.all false
set_option linter.unusedSectionVars false
namespace Ve
open Go Ve.Ab
set_option maxRecDepth 10000
set_option linter.unusedSimpArgs false
theorem bin_or {L : Lay} {t : TypeId} {a b : Int} : opBin L .or t (iV a) (iV b) = some (iV (orI a b)) := rfl
theorem bin_and {L : Lay} {t : TypeId} {a b : Int} : opBin L .and t (iV a) (iV b) = some (iV (andI a b)) := rfl
theorem bin_xor {L : Lay} {t : TypeId} {a b : Int} : opBin L .xor t (iV a) (iV b) = some (iV (xorI a b)) := rfl
attribute [go_sem] bin_or bin_and bin_xor

@[go_sem] theorem s_in (i : Nat) (a b : Int) : pureOf (Lv ctx (i + 1)) 76 [iV a, iV b] = some (bV (inR a b)) := by
  refine sp_of rfl 0 (by rfl) ?_
  delta c76
  simp (config := { contextual := true, dsimp := false, implicitDefEqProofs := false, maxSteps := 5000000 }) only [go_sem, Nat.reduceEqDiff, Nat.reduceAdd, Nat.reduceLeDiff, Nat.reduceMul, Nat.reduceLT, Nat.reduceBEq, Int.reduceLT, Int.reduceLE, Int.reduceToNat, Int.reduceAdd, Int.reduceSub, Int.reduceEq, Int.reduceNeg, ↓reduceIte]
  all_goals ((try simp_all [inR]) <;> (try omega))
@[go_sem] theorem s_value (i : Nat) (a : Int) : pureOf (Lv ctx (i + 2)) 43 [iV a] = some (bV (inR a 255)) := by
  refine sp_of rfl 0 (by rfl) ?_
  delta c43
  simp (config := { contextual := true, dsimp := false, implicitDefEqProofs := false, maxSteps := 5000000 }) only [go_sem, Nat.reduceEqDiff, Nat.reduceAdd, Nat.reduceLeDiff, Nat.reduceMul, Nat.reduceLT, Nat.reduceBEq, Int.reduceLT, Int.reduceLE, Int.reduceToNat, Int.reduceAdd, Int.reduceSub, Int.reduceEq, Int.reduceNeg, ↓reduceIte]
@[go_sem] theorem s_clock (i : Nat) (a : Int) : pureOf (Lv ctx (i + 2)) 128 [iV a] = some (bV (inR a 65535)) := by
  refine sp_of rfl 0 (by rfl) ?_
  delta c128
  simp (config := { contextual := true, dsimp := false, implicitDefEqProofs := false, maxSteps := 5000000 }) only [go_sem, Nat.reduceEqDiff, Nat.reduceAdd, Nat.reduceLeDiff, Nat.reduceMul, Nat.reduceLT, Nat.reduceBEq, Int.reduceLT, Int.reduceLE, Int.reduceToNat, Int.reduceAdd, Int.reduceSub, Int.reduceEq, Int.reduceNeg, ↓reduceIte]
@[go_sem] theorem s_id (i : Nat) (a : Int) : pureOf (Lv ctx (i + 2)) 150 [iV a] = some (bV (inR a 254)) := by
  refine sp_of rfl 0 (by rfl) ?_
  delta c150
  simp (config := { contextual := true, dsimp := false, implicitDefEqProofs := false, maxSteps := 5000000 }) only [go_sem, Nat.reduceEqDiff, Nat.reduceAdd, Nat.reduceLeDiff, Nat.reduceMul, Nat.reduceLT, Nat.reduceBEq, Int.reduceLT, Int.reduceLE, Int.reduceToNat, Int.reduceAdd, Int.reduceSub, Int.reduceEq, Int.reduceNeg, ↓reduceIte]
@[go_sem] theorem s_wordMay (i : Nat) (a b c : Int) : pureOf (Lv ctx (i + 3)) 101 [.agg [iV a, iV b, iV c]] = some (bV (wordMay ⟨a, b, c⟩)) := by
  refine sp_of rfl 0 (by rfl) ?_
  delta c101
  simp (config := { contextual := true, dsimp := false, implicitDefEqProofs := false, maxSteps := 5000000 }) only [go_sem, Nat.reduceEqDiff, Nat.reduceAdd, Nat.reduceLeDiff, Nat.reduceMul, Nat.reduceLT, Nat.reduceBEq, Int.reduceLT, Int.reduceLE, Int.reduceToNat, Int.reduceAdd, Int.reduceSub, Int.reduceEq, Int.reduceNeg, ↓reduceIte]
  all_goals ((try simp_all [wordMay]) <;> (try omega))
@[go_sem] theorem s_upTo11 (i : Nat) (a b c : Int) : pureOf (Lv ctx (i + 1)) 44 [iV a, iV b, iV c] = some (bV (decide (b ≤ a) && decide (a ≤ c))) := by
  refine sp_of rfl 0 (by rfl) ?_
  delta c44
  simp (config := { contextual := true, dsimp := false, implicitDefEqProofs := false, maxSteps := 5000000 }) only [go_sem, Nat.reduceEqDiff, Nat.reduceAdd, Nat.reduceLeDiff, Nat.reduceMul, Nat.reduceLT, Nat.reduceBEq, Int.reduceLT, Int.reduceLE, Int.reduceToNat, Int.reduceAdd, Int.reduceSub, Int.reduceEq, Int.reduceNeg, ↓reduceIte]
  all_goals ((try simp_all [inR]) <;> (try omega))
@[go_sem] theorem s_upTo1 (i : Nat) (a b c : Int) : pureOf (Lv ctx (i + 1)) 77 [iV a, iV b, iV c] = some (bV (decide (b ≤ a) && decide (a ≤ c))) := by
  refine sp_of rfl 0 (by rfl) ?_
  delta c77
  simp (config := { contextual := true, dsimp := false, implicitDefEqProofs := false, maxSteps := 5000000 }) only [go_sem, Nat.reduceEqDiff, Nat.reduceAdd, Nat.reduceLeDiff, Nat.reduceMul, Nat.reduceLT, Nat.reduceBEq, Int.reduceLT, Int.reduceLE, Int.reduceToNat, Int.reduceAdd, Int.reduceSub, Int.reduceEq, Int.reduceNeg, ↓reduceIte]
  all_goals ((try simp_all [inR]) <;> (try omega))
@[go_sem] theorem s_rValue (i : Nat) (a : Int) : pureOf (Lv ctx (i + 2)) 45 [iV a] = some (bV (inR a 255)) := by
  refine sp_of rfl 0 (by rfl) ?_
  delta c45
  simp (config := { contextual := true, dsimp := false, implicitDefEqProofs := false, maxSteps := 5000000 }) only [go_sem, Nat.reduceEqDiff, Nat.reduceAdd, Nat.reduceLeDiff, Nat.reduceMul, Nat.reduceLT, Nat.reduceBEq, Int.reduceLT, Int.reduceLE, Int.reduceToNat, Int.reduceAdd, Int.reduceSub, Int.reduceEq, Int.reduceNeg, ↓reduceIte]
  all_goals ((try simp_all [inR]) <;> (try omega))
@[go_sem] theorem s_rClock (i : Nat) (a : Int) : pureOf (Lv ctx (i + 2)) 55 [iV a] = some (bV (inR a 65535)) := by
  refine sp_of rfl 0 (by rfl) ?_
  delta c55
  simp (config := { contextual := true, dsimp := false, implicitDefEqProofs := false, maxSteps := 5000000 }) only [go_sem, Nat.reduceEqDiff, Nat.reduceAdd, Nat.reduceLeDiff, Nat.reduceMul, Nat.reduceLT, Nat.reduceBEq, Int.reduceLT, Int.reduceLE, Int.reduceToNat, Int.reduceAdd, Int.reduceSub, Int.reduceEq, Int.reduceNeg, ↓reduceIte]
  all_goals ((try simp_all [inR]) <;> (try omega))
@[go_sem] theorem s_rId (i : Nat) (a : Int) : pureOf (Lv ctx (i + 2)) 116 [iV a] = some (bV (inR a 254)) := by
  refine sp_of rfl 0 (by rfl) ?_
  delta c116
  simp (config := { contextual := true, dsimp := false, implicitDefEqProofs := false, maxSteps := 5000000 }) only [go_sem, Nat.reduceEqDiff, Nat.reduceAdd, Nat.reduceLeDiff, Nat.reduceMul, Nat.reduceLT, Nat.reduceBEq, Int.reduceLT, Int.reduceLE, Int.reduceToNat, Int.reduceAdd, Int.reduceSub, Int.reduceEq, Int.reduceNeg, ↓reduceIte]
  all_goals ((try simp_all [inR]) <;> (try omega))
@[go_sem] theorem s_rLabel (i : Nat) (a : Int) : pureOf (Lv ctx (i + 2)) 57 [iV a] = some (bV (inR a 3)) := by
  refine sp_of rfl 0 (by rfl) ?_
  delta c57
  simp (config := { contextual := true, dsimp := false, implicitDefEqProofs := false, maxSteps := 5000000 }) only [go_sem, Nat.reduceEqDiff, Nat.reduceAdd, Nat.reduceLeDiff, Nat.reduceMul, Nat.reduceLT, Nat.reduceBEq, Int.reduceLT, Int.reduceLE, Int.reduceToNat, Int.reduceAdd, Int.reduceSub, Int.reduceEq, Int.reduceNeg, ↓reduceIte]
  all_goals ((try simp_all [inR]) <;> (try omega))
@[go_sem] theorem s_rReg (i : Nat) (a : Int) : pureOf (Lv ctx (i + 2)) 147 [iV a] = some (bV (inR a 3)) := by
  refine sp_of rfl 0 (by rfl) ?_
  delta c147
  simp (config := { contextual := true, dsimp := false, implicitDefEqProofs := false, maxSteps := 5000000 }) only [go_sem, Nat.reduceEqDiff, Nat.reduceAdd, Nat.reduceLeDiff, Nat.reduceMul, Nat.reduceLT, Nat.reduceBEq, Int.reduceLT, Int.reduceLE, Int.reduceToNat, Int.reduceAdd, Int.reduceSub, Int.reduceEq, Int.reduceNeg, ↓reduceIte]
  all_goals ((try simp_all [inR]) <;> (try omega))
theorem lt4 (a : Int) : decide (a < 4) = decide (a ≤ 3) := by
  apply decide_eq_decide.mpr; omega
@[go_sem] theorem s_label (i : Nat) (a : Int) : pureOf (Lv ctx (i + 1)) 108 [iV a] = some (bV (inR a 3)) := by
  refine sp_of rfl 0 (by rfl) ?_
  delta c108
  simp (config := { contextual := true, dsimp := false, implicitDefEqProofs := false, maxSteps := 5000000 }) only [go_sem, Nat.reduceEqDiff, Nat.reduceAdd, Nat.reduceLeDiff, Nat.reduceMul, Nat.reduceLT, Nat.reduceBEq, Int.reduceLT, Int.reduceLE, Int.reduceToNat, Int.reduceAdd, Int.reduceSub, Int.reduceEq, Int.reduceNeg, ↓reduceIte]
  all_goals ((try simp_all [inR, lt4]) <;> (try omega))
@[go_sem] theorem s_reg (i : Nat) (a : Int) : pureOf (Lv ctx (i + 1)) 172 [iV a] = some (bV (inR a 3)) := by
  refine sp_of rfl 0 (by rfl) ?_
  delta c172
  simp (config := { contextual := true, dsimp := false, implicitDefEqProofs := false, maxSteps := 5000000 }) only [go_sem, Nat.reduceEqDiff, Nat.reduceAdd, Nat.reduceLeDiff, Nat.reduceMul, Nat.reduceLT, Nat.reduceBEq, Int.reduceLT, Int.reduceLE, Int.reduceToNat, Int.reduceAdd, Int.reduceSub, Int.reduceEq, Int.reduceNeg, ↓reduceIte]
  all_goals ((try simp_all [inR, lt4]) <;> (try omega))
@[go_sem] theorem s_index (i : Nat) (a : Int) : pureOf (Lv ctx (i + 1)) 153 [iV a] = some (bV (inR a 3)) := by
  refine sp_of rfl 0 (by rfl) ?_
  delta c153
  simp (config := { contextual := true, dsimp := false, implicitDefEqProofs := false, maxSteps := 5000000 }) only [go_sem, Nat.reduceEqDiff, Nat.reduceAdd, Nat.reduceLeDiff, Nat.reduceMul, Nat.reduceLT, Nat.reduceBEq, Int.reduceLT, Int.reduceLE, Int.reduceToNat, Int.reduceAdd, Int.reduceSub, Int.reduceEq, Int.reduceNeg, ↓reduceIte]
  all_goals ((try simp_all [inR, lt4]) <;> (try omega))
@[go_sem] theorem s_machin (i : Nat) (a b : Int) : pureOf (Lv ctx (i + 1)) 142 [iV a, iV b] = some (bV (inR a b)) := by
  refine sp_of rfl 0 (by rfl) ?_
  delta c142
  simp (config := { contextual := true, dsimp := false, implicitDefEqProofs := false, maxSteps := 5000000 }) only [go_sem, Nat.reduceEqDiff, Nat.reduceAdd, Nat.reduceLeDiff, Nat.reduceMul, Nat.reduceLT, Nat.reduceBEq, Int.reduceLT, Int.reduceLE, Int.reduceToNat, Int.reduceAdd, Int.reduceSub, Int.reduceEq, Int.reduceNeg, ↓reduceIte]
  all_goals ((try simp_all [inR]) <;> (try omega))
@[go_sem] theorem s_under (i : Nat) (a b : Int) : pureOf (Lv ctx (i + 1)) 151 [iV a, iV b] = some (bV (under a b)) := by
  refine sp_of rfl 0 (by rfl) ?_
  delta c151
  simp (config := { contextual := true, dsimp := false, implicitDefEqProofs := false, maxSteps := 5000000 }) only [go_sem, Nat.reduceEqDiff, Nat.reduceAdd, Nat.reduceLeDiff, Nat.reduceMul, Nat.reduceLT, Nat.reduceBEq, Int.reduceLT, Int.reduceLE, Int.reduceToNat, Int.reduceAdd, Int.reduceSub, Int.reduceEq, Int.reduceNeg, ↓reduceIte]
  all_goals ((try simp_all [under]) <;> (try omega))
@[go_sem] theorem s_rUnder (i : Nat) (a b : Int) : pureOf (Lv ctx (i + 1)) 117 [iV a, iV b] = some (bV (under a b)) := by
  refine sp_of rfl 0 (by rfl) ?_
  delta c117
  simp (config := { contextual := true, dsimp := false, implicitDefEqProofs := false, maxSteps := 5000000 }) only [go_sem, Nat.reduceEqDiff, Nat.reduceAdd, Nat.reduceLeDiff, Nat.reduceMul, Nat.reduceLT, Nat.reduceBEq, Int.reduceLT, Int.reduceLE, Int.reduceToNat, Int.reduceAdd, Int.reduceSub, Int.reduceEq, Int.reduceNeg, ↓reduceIte]
  all_goals ((try simp_all [under]) <;> (try omega))
@[go_sem] theorem s_rWordMay (i : Nat) (a b c : Int) : pureOf (Lv ctx (i + 3)) 82 [.agg [iV a, iV b, iV c]] = some (bV (wordMay ⟨a, b, c⟩)) := by
  refine sp_of rfl 0 (by rfl) ?_
  delta c82
  simp (config := { contextual := true, dsimp := false, implicitDefEqProofs := false, maxSteps := 5000000 }) only [go_sem, Nat.reduceEqDiff, Nat.reduceAdd, Nat.reduceLeDiff, Nat.reduceMul, Nat.reduceLT, Nat.reduceBEq, Int.reduceLT, Int.reduceLE, Int.reduceToNat, Int.reduceAdd, Int.reduceSub, Int.reduceEq, Int.reduceNeg, ↓reduceIte]
  all_goals ((try simp_all [wordMay, inR]) <;> (try omega))
@[go_sem] theorem s_wordName (i : Nat) (a b : Int) : pureOf (Lv ctx (i + 3)) 121 [iV a, iV b] = some (bV (inR a 3 && inR b 3)) := by
  refine sp_of rfl 0 (by rfl) ?_
  delta c121
  simp (config := { contextual := true, dsimp := false, implicitDefEqProofs := false, maxSteps := 5000000 }) only [go_sem, Nat.reduceEqDiff, Nat.reduceAdd, Nat.reduceLeDiff, Nat.reduceMul, Nat.reduceLT, Nat.reduceBEq, Int.reduceLT, Int.reduceLE, Int.reduceToNat, Int.reduceAdd, Int.reduceSub, Int.reduceEq, Int.reduceNeg, ↓reduceIte]
  all_goals ((try simp_all [inR]) <;> (try omega))
@[go_sem] theorem s_wordIs (i : Nat) (a b c d : Int) : pureOf (Lv ctx (i + 1)) 163 [.agg [iV a, iV b, iV c, iV d]] = some (bV (wordIs a)) := by
  refine sp_of rfl 0 (by rfl) ?_
  delta c163
  simp (config := { contextual := true, dsimp := false, implicitDefEqProofs := false, maxSteps := 5000000 }) only [go_sem, Nat.reduceEqDiff, Nat.reduceAdd, Nat.reduceLeDiff, Nat.reduceMul, Nat.reduceLT, Nat.reduceBEq, Int.reduceLT, Int.reduceLE, Int.reduceToNat, Int.reduceAdd, Int.reduceSub, Int.reduceEq, Int.reduceNeg, ↓reduceIte]
  all_goals ((try simp_all [wordIs]) <;> (try omega))
@[go_sem] theorem s_names (i : Nat) (a b c d : Int) : pureOf (Lv ctx (i + 1)) 171 [.agg [iV a, iV b, iV c, iV d]] = some (eI (names ⟨a, b, c, d⟩)) := by
  refine sp_of rfl 0 (by rfl) ?_
  delta c171
  simp (config := { contextual := true, dsimp := false, implicitDefEqProofs := false, maxSteps := 5000000 }) only [go_sem, Nat.reduceEqDiff, Nat.reduceAdd, Nat.reduceLeDiff, Nat.reduceMul, Nat.reduceLT, Nat.reduceBEq, Int.reduceLT, Int.reduceLE, Int.reduceToNat, Int.reduceAdd, Int.reduceSub, Int.reduceEq, Int.reduceNeg, ↓reduceIte]
  all_goals (simp_all [names, eI])
@[go_sem] theorem s_rInstMay (i : Nat) (a b c d : Int) : pureOf (Lv ctx (i + 3)) 146 [.agg [iV a, iV b, iV c, iV d]] = some (bV (instMay ⟨a, b, c, d⟩)) := by
  refine sp_of rfl 0 (by rfl) ?_
  delta c146
  simp (config := { contextual := true, dsimp := false, implicitDefEqProofs := false, maxSteps := 5000000 }) only [go_sem, Nat.reduceEqDiff, Nat.reduceAdd, Nat.reduceLeDiff, Nat.reduceMul, Nat.reduceLT, Nat.reduceBEq, Int.reduceLT, Int.reduceLE, Int.reduceToNat, Int.reduceAdd, Int.reduceSub, Int.reduceEq, Int.reduceNeg, ↓reduceIte]
  all_goals ((try simp_all [instMay, inR, names, Bool.and_assoc]) <;> (try omega))
@[go_sem] theorem s_instMay (i : Nat) (a b c d : Int) : pureOf (Lv ctx (i + 3)) 165 [.agg [iV a, iV b, iV c, iV d]] = some (bV (instMay ⟨a, b, c, d⟩)) := by
  refine sp_of rfl 0 (by rfl) ?_
  delta c165
  simp (config := { contextual := true, dsimp := false, implicitDefEqProofs := false, maxSteps := 5000000 }) only [go_sem, Nat.reduceEqDiff, Nat.reduceAdd, Nat.reduceLeDiff, Nat.reduceMul, Nat.reduceLT, Nat.reduceBEq, Int.reduceLT, Int.reduceLE, Int.reduceToNat, Int.reduceAdd, Int.reduceSub, Int.reduceEq, Int.reduceNeg, ↓reduceIte]
  have hc : a = 0 ∨ a = 1 ∨ a = 2 ∨ a = 3 ∨ a = 4 ∨ a = 5 ∨ a = 6 ∨ (a ≠ 0 ∧ a ≠ 1 ∧ a ≠ 2 ∧ a ≠ 3 ∧ a ≠ 4 ∧ a ≠ 5 ∧ a ≠ 6) := by omega
  rcases hc with rfl | rfl | rfl | rfl | rfl | rfl | rfl | ⟨h0, h1, h2, h3, h4, h5, h6⟩ <;> simp_all [instMay, inR, names, lt4, Bool.and_assoc] <;> (try omega)
end Ve

/- slices.IndexFunc, slices.ContainsFunc, all. -/
namespace Ve
open Go Ve.Ab
set_option maxRecDepth 10000
set_option linter.unusedSimpArgs false
def findGo {α : Type} (p : α → Bool) : Nat → List α → Option Nat
  | _, [] => none
  | j, a :: r => if p a then some j else findGo p (j + 1) r
def idxOf : Option Nat → Int
  | none => -1
  | some j => j
theorem findGo_any {α : Type} (p : α → Bool) : ∀ (l : List α) (j : Nat), decide (0 ≤ idxOf (findGo p j l)) = l.any p
  | [], j => by simp [findGo, idxOf]
  | a :: r, j => by
    simp only [findGo, List.any_cons]
    split
    · rename_i h; simp [h, idxOf]
    · rename_i h; simp [h, findGo_any p r (j + 1)]
theorem wrN (j : Nat) (h : j ≤ BB) : IntKind.wrap .i64 ((j : Int) + 1) = ((j + 1 : Nat) : Int) := by
  have := wr_id (a := (j : Int) + 1) (by omega) (by simp only [BB] at h; omega)
  simp only [wr] at this
  rw [this]; simp
theorem append_len1 {α : Type} (pre : List α) (a : α) : (pre ++ [a]).length = pre.length + 1 := by simp
def optFin (q : Out → St → Option Ans) (Q : V → Hp → Nat → Prop) (s1 : St) (s2 : Nat → St) : Option Nat → Prop
  | none => Fin (q (.exit 0) s1) Q
  | some j => Fin (q .ret (s2 j)) Q
theorem optFin_none (q : Out → St → Option Ans) (Q : V → Hp → Nat → Prop) (s1 : St) (s2 : Nat → St) : optFin q Q s1 s2 none = Fin (q (.exit 0) s1) Q := (rfl)
theorem optFin_some (q : Out → St → Option Ans) (Q : V → Hp → Nat → Prop) (s1 : St) (s2 : Nat → St) (j : Nat) : optFin q Q s1 s2 (some j) = Fin (q .ret (s2 j)) Q := (rfl)


theorem l_ixWord (i k : Nat) (pf nn : Bool) (xs : List TWord) (p : TWord → Bool) (g : Nat) (cap : List V) (hc : CallP tbl g []) (hcap : ∀ d, amMap (reify (d + 1)) cap = .ret cap) (hsc : scrubs 0 cap = cap)
    (hp : ∀ a, a ∈ xs → pureOf (Lv ctx i) g (eW a :: cap) = some (bV (p a))) (hx : xs.length ≤ BB) (q : Out → St → Option Ans) (Q : V → Hp → Nat → Prop) (u : Dum fun s q => evC ctx (Lv ctx i) (pureOf (Lv ctx i)) k c148_1 s (restK [0, 1, 7, 8] q)) (w : Dum q) : ∀ (suf pre : List TWord) (kk : Nat), xs = pre ++ suf → suf.length < kk →
    GL 0 [0, 1, 7, 8] (fun s q => evC ctx (Lv ctx i) (pureOf (Lv ctx i)) k c148_1 s (restK [0, 1, 7, 8] q)) q kk ⟨ofLive [0, 1, 7, 8] [.isl pf nn 3 (xs.map eW), .fn (.func g) [] cap, iV xs.length, iV pre.length], emptyHp, 0⟩ Q u w =
    optFin q Q ⟨ofLive [] [], emptyHp, 0⟩ (fun j => ⟨ofLive [4] [iV j], emptyHp, 0⟩) (findGo p pre.length suf)
  | [], pre, kk, hxs, hk => by
    obtain ⟨kk, rfl⟩ : ∃ m, kk = m + 1 := ⟨kk - 1, by simp at hk; omega⟩
    have h1 : decide ((pre.length : Int) < xs.length) = false := by simp [hxs]
    simp (config := { contextual := true, dsimp := false, implicitDefEqProofs := false, maxSteps := 5000000 }) only [gLs, ↓un_c (c148_1.eq_1), h1, hcap, hsc, findGo, optFin_none, go_sem, Nat.reduceEqDiff, Nat.reduceAdd, Nat.reduceLeDiff, Nat.reduceMul, Nat.reduceLT, Nat.reduceBEq, Int.reduceLT, Int.reduceLE, Int.reduceToNat, Int.reduceAdd, Int.reduceSub, Int.reduceEq, Int.reduceNeg, ↓reduceIte]
  | a :: suf, pre, kk, hxs, hk => by
    obtain ⟨kk, rfl⟩ : ∃ m, kk = m + 1 := ⟨kk - 1, by simp at hk; omega⟩
    have hl : pre.length < xs.length := by simp [hxs]
    have h1 : decide ((pre.length : Int) < xs.length) = true := by simpa using hl
    have h2 : ((pre.length : Int) < xs.length) = True := by simpa using hl
    have h3 : (0 ≤ (pre.length : Int)) = True := by simp
    have h4 := wrN pre.length (by omega)
    have hg : xs[pre.length]? = some a := by simp [hxs]
    have hpa := hp a (by simp [hxs])
    simp only [eW] at hpa
    have ih := l_ixWord i k pf nn xs p g cap hc hcap hsc hp hx q Q u w suf (pre ++ [a]) kk (by simp [hxs]) (by simpa using hk)
    rw [append_len1] at ih
    cases hb : p a <;> rw [hb] at hpa <;> simp (config := { contextual := true, dsimp := false, implicitDefEqProofs := false, maxSteps := 5000000 }) only [gLs, ↓un_c (c148_1.eq_1), h1, h2, h3, h4, hcap, hsc, findGo, optFin_some, hg, hpa, hb, hc, ih, Int.toNat_natCast, List.getElem?_map, go_sem, Nat.reduceEqDiff, Nat.reduceAdd, Nat.reduceLeDiff, Nat.reduceMul, Nat.reduceLT, Nat.reduceBEq, Int.reduceLT, Int.reduceLE, Int.reduceToNat, Int.reduceAdd, Int.reduceSub, Int.reduceEq, Int.reduceNeg, ↓reduceIte]
theorem s_cfWord (i : Nat) (pf nn : Bool) (xs : List TWord) (p : TWord → Bool) (g : Nat) (cap : List V) (hc : CallP tbl g []) (hcap : ∀ d, amMap (reify (d + 1)) cap = .ret cap) (hsc : scrubs 0 cap = cap) (hn : ones cap = true) 
    (hp : ∀ a, a ∈ xs → pureOf (Lv ctx i) g (eW a :: cap) = some (bV (p a))) (hx : xs.length ≤ BB) : pureOf (Lv ctx (i + 2)) 130 [.isl pf nn 3 (xs.map eW), .fn (.func g) [] cap] = some (bV (xs.any p)) := by
  have h1 : pureOf (Lv ctx (i + 1)) 148 [.isl pf nn 3 (xs.map eW), .fn (.func g) [] cap] = some (iV (idxOf (findGo p 0 xs))) := by
    refine sp_of rfl (xs.length + 1) (by rfl) ?_
    delta c148
    have hl := fun q Q u w => l_ixWord i (xs.length + 1) pf nn xs p g cap hc hcap hsc hp hx q Q u w xs [] (xs.length + 1) rfl (by omega)
    simp only [List.length_nil, Int.natCast_zero] at hl
    simp (config := { contextual := true, dsimp := false, implicitDefEqProofs := false, maxSteps := 5000000 }) only [hl, go_sem, Nat.reduceEqDiff, Nat.reduceAdd, Nat.reduceLeDiff, Nat.reduceMul, Nat.reduceLT, Nat.reduceBEq, Int.reduceLT, Int.reduceLE, Int.reduceToNat, Int.reduceAdd, Int.reduceSub, Int.reduceEq, Int.reduceNeg, ↓reduceIte]
    cases findGo p 0 xs <;> simp (config := { contextual := true, dsimp := false, implicitDefEqProofs := false, maxSteps := 5000000 }) only [optFin_none, optFin_some, idxOf, go_sem, Nat.reduceEqDiff, Nat.reduceAdd, Nat.reduceLeDiff, Nat.reduceMul, Nat.reduceLT, Nat.reduceBEq, Int.reduceLT, Int.reduceLE, Int.reduceToNat, Int.reduceAdd, Int.reduceSub, Int.reduceEq, Int.reduceNeg, ↓reduceIte]
  refine sp_of rfl 0 (by rfl) ?_
  delta c130
  simp (config := { contextual := true, dsimp := false, implicitDefEqProofs := false, maxSteps := 5000000 }) only [h1, hcap, findGo_any, go_sem, Nat.reduceEqDiff, Nat.reduceAdd, Nat.reduceLeDiff, Nat.reduceMul, Nat.reduceLT, Nat.reduceBEq, Int.reduceLT, Int.reduceLE, Int.reduceToNat, Int.reduceAdd, Int.reduceSub, Int.reduceEq, Int.reduceNeg, ↓reduceIte]


theorem l_ixSession (i k : Nat) (pf nn : Bool) (xs : List TSess) (p : TSess → Bool) (g : Nat) (cap : List V) (hc : CallP tbl g []) (hcap : ∀ d, amMap (reify (d + 1)) cap = .ret cap) (hsc : scrubs 0 cap = cap)
    (hp : ∀ a, a ∈ xs → pureOf (Lv ctx i) g ((eS pf) a :: cap) = some (bV (p a))) (hx : xs.length ≤ BB) (q : Out → St → Option Ans) (Q : V → Hp → Nat → Prop) (u : Dum fun s q => evC ctx (Lv ctx i) (pureOf (Lv ctx i)) k c149_1 s (restK [0, 1, 7, 8] q)) (w : Dum q) : ∀ (suf pre : List TSess) (kk : Nat), xs = pre ++ suf → suf.length < kk →
    GL 0 [0, 1, 7, 8] (fun s q => evC ctx (Lv ctx i) (pureOf (Lv ctx i)) k c149_1 s (restK [0, 1, 7, 8] q)) q kk ⟨ofLive [0, 1, 7, 8] [.isl pf nn 17 (xs.map (eS pf)), .fn (.func g) [] cap, iV xs.length, iV pre.length], emptyHp, 0⟩ Q u w =
    optFin q Q ⟨ofLive [] [], emptyHp, 0⟩ (fun j => ⟨ofLive [4] [iV j], emptyHp, 0⟩) (findGo p pre.length suf)
  | [], pre, kk, hxs, hk => by
    obtain ⟨kk, rfl⟩ : ∃ m, kk = m + 1 := ⟨kk - 1, by simp at hk; omega⟩
    have h1 : decide ((pre.length : Int) < xs.length) = false := by simp [hxs]
    simp (config := { contextual := true, dsimp := false, implicitDefEqProofs := false, maxSteps := 5000000 }) only [gLs, ↓un_c (c149_1.eq_1), h1, hcap, hsc, findGo, optFin_none, go_sem, Nat.reduceEqDiff, Nat.reduceAdd, Nat.reduceLeDiff, Nat.reduceMul, Nat.reduceLT, Nat.reduceBEq, Int.reduceLT, Int.reduceLE, Int.reduceToNat, Int.reduceAdd, Int.reduceSub, Int.reduceEq, Int.reduceNeg, ↓reduceIte]
  | a :: suf, pre, kk, hxs, hk => by
    obtain ⟨kk, rfl⟩ : ∃ m, kk = m + 1 := ⟨kk - 1, by simp at hk; omega⟩
    have hl : pre.length < xs.length := by simp [hxs]
    have h1 : decide ((pre.length : Int) < xs.length) = true := by simpa using hl
    have h2 : ((pre.length : Int) < xs.length) = True := by simpa using hl
    have h3 : (0 ≤ (pre.length : Int)) = True := by simp
    have h4 := wrN pre.length (by omega)
    have hg : xs[pre.length]? = some a := by simp [hxs]
    have hpa := hp a (by simp [hxs])
    simp only [eS] at hpa
    have ih := l_ixSession i k pf nn xs p g cap hc hcap hsc hp hx q Q u w suf (pre ++ [a]) kk (by simp [hxs]) (by simpa using hk)
    rw [append_len1] at ih
    cases hb : p a <;> rw [hb] at hpa <;> simp (config := { contextual := true, dsimp := false, implicitDefEqProofs := false, maxSteps := 5000000 }) only [gLs, ↓un_c (c149_1.eq_1), h1, h2, h3, h4, hcap, hsc, findGo, optFin_some, hg, hpa, hb, hc, ih, Int.toNat_natCast, List.getElem?_map, go_sem, Nat.reduceEqDiff, Nat.reduceAdd, Nat.reduceLeDiff, Nat.reduceMul, Nat.reduceLT, Nat.reduceBEq, Int.reduceLT, Int.reduceLE, Int.reduceToNat, Int.reduceAdd, Int.reduceSub, Int.reduceEq, Int.reduceNeg, ↓reduceIte]
theorem s_cfSession (i : Nat) (pf nn : Bool) (xs : List TSess) (p : TSess → Bool) (g : Nat) (cap : List V) (hc : CallP tbl g []) (hcap : ∀ d, amMap (reify (d + 1)) cap = .ret cap) (hsc : scrubs 0 cap = cap) (hn : ones cap = true) 
    (hp : ∀ a, a ∈ xs → pureOf (Lv ctx i) g ((eS pf) a :: cap) = some (bV (p a))) (hx : xs.length ≤ BB) : pureOf (Lv ctx (i + 2)) 131 [.isl pf nn 17 (xs.map (eS pf)), .fn (.func g) [] cap] = some (bV (xs.any p)) := by
  have h1 : pureOf (Lv ctx (i + 1)) 149 [.isl pf nn 17 (xs.map (eS pf)), .fn (.func g) [] cap] = some (iV (idxOf (findGo p 0 xs))) := by
    refine sp_of rfl (xs.length + 1) (by rfl) ?_
    delta c149
    have hl := fun q Q u w => l_ixSession i (xs.length + 1) pf nn xs p g cap hc hcap hsc hp hx q Q u w xs [] (xs.length + 1) rfl (by omega)
    simp only [List.length_nil, Int.natCast_zero] at hl
    simp (config := { contextual := true, dsimp := false, implicitDefEqProofs := false, maxSteps := 5000000 }) only [hl, go_sem, Nat.reduceEqDiff, Nat.reduceAdd, Nat.reduceLeDiff, Nat.reduceMul, Nat.reduceLT, Nat.reduceBEq, Int.reduceLT, Int.reduceLE, Int.reduceToNat, Int.reduceAdd, Int.reduceSub, Int.reduceEq, Int.reduceNeg, ↓reduceIte]
    cases findGo p 0 xs <;> simp (config := { contextual := true, dsimp := false, implicitDefEqProofs := false, maxSteps := 5000000 }) only [optFin_none, optFin_some, idxOf, go_sem, Nat.reduceEqDiff, Nat.reduceAdd, Nat.reduceLeDiff, Nat.reduceMul, Nat.reduceLT, Nat.reduceBEq, Int.reduceLT, Int.reduceLE, Int.reduceToNat, Int.reduceAdd, Int.reduceSub, Int.reduceEq, Int.reduceNeg, ↓reduceIte]
  refine sp_of rfl 0 (by rfl) ?_
  delta c131
  simp (config := { contextual := true, dsimp := false, implicitDefEqProofs := false, maxSteps := 5000000 }) only [h1, hcap, findGo_any, go_sem, Nat.reduceEqDiff, Nat.reduceAdd, Nat.reduceLeDiff, Nat.reduceMul, Nat.reduceLT, Nat.reduceBEq, Int.reduceLT, Int.reduceLE, Int.reduceToNat, Int.reduceAdd, Int.reduceSub, Int.reduceEq, Int.reduceNeg, ↓reduceIte]


theorem l_ixEvent (i k : Nat) (pf nn : Bool) (xs : List TEvent) (p : TEvent → Bool) (g : Nat) (cap : List V) (hc : CallP tbl g []) (hcap : ∀ d, amMap (reify (d + 1)) cap = .ret cap) (hsc : scrubs 0 cap = cap)
    (hp : ∀ a, a ∈ xs → pureOf (Lv ctx i) g (eE a :: cap) = some (bV (p a))) (hx : xs.length ≤ BB) (q : Out → St → Option Ans) (Q : V → Hp → Nat → Prop) (u : Dum fun s q => evC ctx (Lv ctx i) (pureOf (Lv ctx i)) k c164_1 s (restK [0, 1, 7, 8] q)) (w : Dum q) : ∀ (suf pre : List TEvent) (kk : Nat), xs = pre ++ suf → suf.length < kk →
    GL 0 [0, 1, 7, 8] (fun s q => evC ctx (Lv ctx i) (pureOf (Lv ctx i)) k c164_1 s (restK [0, 1, 7, 8] q)) q kk ⟨ofLive [0, 1, 7, 8] [.isl pf nn 4 (xs.map eE), .fn (.func g) [] cap, iV xs.length, iV pre.length], emptyHp, 0⟩ Q u w =
    optFin q Q ⟨ofLive [] [], emptyHp, 0⟩ (fun j => ⟨ofLive [4] [iV j], emptyHp, 0⟩) (findGo p pre.length suf)
  | [], pre, kk, hxs, hk => by
    obtain ⟨kk, rfl⟩ : ∃ m, kk = m + 1 := ⟨kk - 1, by simp at hk; omega⟩
    have h1 : decide ((pre.length : Int) < xs.length) = false := by simp [hxs]
    simp (config := { contextual := true, dsimp := false, implicitDefEqProofs := false, maxSteps := 5000000 }) only [gLs, ↓un_c (c164_1.eq_1), h1, hcap, hsc, findGo, optFin_none, go_sem, Nat.reduceEqDiff, Nat.reduceAdd, Nat.reduceLeDiff, Nat.reduceMul, Nat.reduceLT, Nat.reduceBEq, Int.reduceLT, Int.reduceLE, Int.reduceToNat, Int.reduceAdd, Int.reduceSub, Int.reduceEq, Int.reduceNeg, ↓reduceIte]
  | a :: suf, pre, kk, hxs, hk => by
    obtain ⟨kk, rfl⟩ : ∃ m, kk = m + 1 := ⟨kk - 1, by simp at hk; omega⟩
    have hl : pre.length < xs.length := by simp [hxs]
    have h1 : decide ((pre.length : Int) < xs.length) = true := by simpa using hl
    have h2 : ((pre.length : Int) < xs.length) = True := by simpa using hl
    have h3 : (0 ≤ (pre.length : Int)) = True := by simp
    have h4 := wrN pre.length (by omega)
    have hg : xs[pre.length]? = some a := by simp [hxs]
    have hpa := hp a (by simp [hxs])
    simp only [eE] at hpa
    have ih := l_ixEvent i k pf nn xs p g cap hc hcap hsc hp hx q Q u w suf (pre ++ [a]) kk (by simp [hxs]) (by simpa using hk)
    rw [append_len1] at ih
    cases hb : p a <;> rw [hb] at hpa <;> simp (config := { contextual := true, dsimp := false, implicitDefEqProofs := false, maxSteps := 5000000 }) only [gLs, ↓un_c (c164_1.eq_1), h1, h2, h3, h4, hcap, hsc, findGo, optFin_some, hg, hpa, hb, hc, ih, Int.toNat_natCast, List.getElem?_map, go_sem, Nat.reduceEqDiff, Nat.reduceAdd, Nat.reduceLeDiff, Nat.reduceMul, Nat.reduceLT, Nat.reduceBEq, Int.reduceLT, Int.reduceLE, Int.reduceToNat, Int.reduceAdd, Int.reduceSub, Int.reduceEq, Int.reduceNeg, ↓reduceIte]
theorem s_cfEvent (i : Nat) (pf nn : Bool) (xs : List TEvent) (p : TEvent → Bool) (g : Nat) (cap : List V) (hc : CallP tbl g []) (hcap : ∀ d, amMap (reify (d + 1)) cap = .ret cap) (hsc : scrubs 0 cap = cap) (hn : ones cap = true) 
    (hp : ∀ a, a ∈ xs → pureOf (Lv ctx i) g (eE a :: cap) = some (bV (p a))) (hx : xs.length ≤ BB) : pureOf (Lv ctx (i + 2)) 144 [.isl pf nn 4 (xs.map eE), .fn (.func g) [] cap] = some (bV (xs.any p)) := by
  have h1 : pureOf (Lv ctx (i + 1)) 164 [.isl pf nn 4 (xs.map eE), .fn (.func g) [] cap] = some (iV (idxOf (findGo p 0 xs))) := by
    refine sp_of rfl (xs.length + 1) (by rfl) ?_
    delta c164
    have hl := fun q Q u w => l_ixEvent i (xs.length + 1) pf nn xs p g cap hc hcap hsc hp hx q Q u w xs [] (xs.length + 1) rfl (by omega)
    simp only [List.length_nil, Int.natCast_zero] at hl
    simp (config := { contextual := true, dsimp := false, implicitDefEqProofs := false, maxSteps := 5000000 }) only [hl, go_sem, Nat.reduceEqDiff, Nat.reduceAdd, Nat.reduceLeDiff, Nat.reduceMul, Nat.reduceLT, Nat.reduceBEq, Int.reduceLT, Int.reduceLE, Int.reduceToNat, Int.reduceAdd, Int.reduceSub, Int.reduceEq, Int.reduceNeg, ↓reduceIte]
    cases findGo p 0 xs <;> simp (config := { contextual := true, dsimp := false, implicitDefEqProofs := false, maxSteps := 5000000 }) only [optFin_none, optFin_some, idxOf, go_sem, Nat.reduceEqDiff, Nat.reduceAdd, Nat.reduceLeDiff, Nat.reduceMul, Nat.reduceLT, Nat.reduceBEq, Int.reduceLT, Int.reduceLE, Int.reduceToNat, Int.reduceAdd, Int.reduceSub, Int.reduceEq, Int.reduceNeg, ↓reduceIte]
  refine sp_of rfl 0 (by rfl) ?_
  delta c144
  simp (config := { contextual := true, dsimp := false, implicitDefEqProofs := false, maxSteps := 5000000 }) only [h1, hcap, findGo_any, go_sem, Nat.reduceEqDiff, Nat.reduceAdd, Nat.reduceLeDiff, Nat.reduceMul, Nat.reduceLT, Nat.reduceBEq, Int.reduceLT, Int.reduceLE, Int.reduceToNat, Int.reduceAdd, Int.reduceSub, Int.reduceEq, Int.reduceNeg, ↓reduceIte]


theorem l_ixRead (i k : Nat) (pf nn : Bool) (xs : List TRead) (p : TRead → Bool) (g : Nat) (cap : List V) (hc : CallP tbl g []) (hcap : ∀ d, amMap (reify (d + 1)) cap = .ret cap) (hsc : scrubs 0 cap = cap)
    (hp : ∀ a, a ∈ xs → pureOf (Lv ctx i) g (eR a :: cap) = some (bV (p a))) (hx : xs.length ≤ BB) (q : Out → St → Option Ans) (Q : V → Hp → Nat → Prop) (u : Dum fun s q => evC ctx (Lv ctx i) (pureOf (Lv ctx i)) k c166_1 s (restK [0, 1, 7, 8] q)) (w : Dum q) : ∀ (suf pre : List TRead) (kk : Nat), xs = pre ++ suf → suf.length < kk →
    GL 0 [0, 1, 7, 8] (fun s q => evC ctx (Lv ctx i) (pureOf (Lv ctx i)) k c166_1 s (restK [0, 1, 7, 8] q)) q kk ⟨ofLive [0, 1, 7, 8] [.isl pf nn 3 (xs.map eR), .fn (.func g) [] cap, iV xs.length, iV pre.length], emptyHp, 0⟩ Q u w =
    optFin q Q ⟨ofLive [] [], emptyHp, 0⟩ (fun j => ⟨ofLive [4] [iV j], emptyHp, 0⟩) (findGo p pre.length suf)
  | [], pre, kk, hxs, hk => by
    obtain ⟨kk, rfl⟩ : ∃ m, kk = m + 1 := ⟨kk - 1, by simp at hk; omega⟩
    have h1 : decide ((pre.length : Int) < xs.length) = false := by simp [hxs]
    simp (config := { contextual := true, dsimp := false, implicitDefEqProofs := false, maxSteps := 5000000 }) only [gLs, ↓un_c (c166_1.eq_1), h1, hcap, hsc, findGo, optFin_none, go_sem, Nat.reduceEqDiff, Nat.reduceAdd, Nat.reduceLeDiff, Nat.reduceMul, Nat.reduceLT, Nat.reduceBEq, Int.reduceLT, Int.reduceLE, Int.reduceToNat, Int.reduceAdd, Int.reduceSub, Int.reduceEq, Int.reduceNeg, ↓reduceIte]
  | a :: suf, pre, kk, hxs, hk => by
    obtain ⟨kk, rfl⟩ : ∃ m, kk = m + 1 := ⟨kk - 1, by simp at hk; omega⟩
    have hl : pre.length < xs.length := by simp [hxs]
    have h1 : decide ((pre.length : Int) < xs.length) = true := by simpa using hl
    have h2 : ((pre.length : Int) < xs.length) = True := by simpa using hl
    have h3 : (0 ≤ (pre.length : Int)) = True := by simp
    have h4 := wrN pre.length (by omega)
    have hg : xs[pre.length]? = some a := by simp [hxs]
    have hpa := hp a (by simp [hxs])
    simp only [eR] at hpa
    have ih := l_ixRead i k pf nn xs p g cap hc hcap hsc hp hx q Q u w suf (pre ++ [a]) kk (by simp [hxs]) (by simpa using hk)
    rw [append_len1] at ih
    cases hb : p a <;> rw [hb] at hpa <;> simp (config := { contextual := true, dsimp := false, implicitDefEqProofs := false, maxSteps := 5000000 }) only [gLs, ↓un_c (c166_1.eq_1), h1, h2, h3, h4, hcap, hsc, findGo, optFin_some, hg, hpa, hb, hc, ih, Int.toNat_natCast, List.getElem?_map, go_sem, Nat.reduceEqDiff, Nat.reduceAdd, Nat.reduceLeDiff, Nat.reduceMul, Nat.reduceLT, Nat.reduceBEq, Int.reduceLT, Int.reduceLE, Int.reduceToNat, Int.reduceAdd, Int.reduceSub, Int.reduceEq, Int.reduceNeg, ↓reduceIte]
theorem s_cfRead (i : Nat) (pf nn : Bool) (xs : List TRead) (p : TRead → Bool) (g : Nat) (cap : List V) (hc : CallP tbl g []) (hcap : ∀ d, amMap (reify (d + 1)) cap = .ret cap) (hsc : scrubs 0 cap = cap) (hn : ones cap = true) 
    (hp : ∀ a, a ∈ xs → pureOf (Lv ctx i) g (eR a :: cap) = some (bV (p a))) (hx : xs.length ≤ BB) : pureOf (Lv ctx (i + 2)) 154 [.isl pf nn 3 (xs.map eR), .fn (.func g) [] cap] = some (bV (xs.any p)) := by
  have h1 : pureOf (Lv ctx (i + 1)) 166 [.isl pf nn 3 (xs.map eR), .fn (.func g) [] cap] = some (iV (idxOf (findGo p 0 xs))) := by
    refine sp_of rfl (xs.length + 1) (by rfl) ?_
    delta c166
    have hl := fun q Q u w => l_ixRead i (xs.length + 1) pf nn xs p g cap hc hcap hsc hp hx q Q u w xs [] (xs.length + 1) rfl (by omega)
    simp only [List.length_nil, Int.natCast_zero] at hl
    simp (config := { contextual := true, dsimp := false, implicitDefEqProofs := false, maxSteps := 5000000 }) only [hl, go_sem, Nat.reduceEqDiff, Nat.reduceAdd, Nat.reduceLeDiff, Nat.reduceMul, Nat.reduceLT, Nat.reduceBEq, Int.reduceLT, Int.reduceLE, Int.reduceToNat, Int.reduceAdd, Int.reduceSub, Int.reduceEq, Int.reduceNeg, ↓reduceIte]
    cases findGo p 0 xs <;> simp (config := { contextual := true, dsimp := false, implicitDefEqProofs := false, maxSteps := 5000000 }) only [optFin_none, optFin_some, idxOf, go_sem, Nat.reduceEqDiff, Nat.reduceAdd, Nat.reduceLeDiff, Nat.reduceMul, Nat.reduceLT, Nat.reduceBEq, Int.reduceLT, Int.reduceLE, Int.reduceToNat, Int.reduceAdd, Int.reduceSub, Int.reduceEq, Int.reduceNeg, ↓reduceIte]
  refine sp_of rfl 0 (by rfl) ?_
  delta c154
  simp (config := { contextual := true, dsimp := false, implicitDefEqProofs := false, maxSteps := 5000000 }) only [h1, hcap, findGo_any, go_sem, Nat.reduceEqDiff, Nat.reduceAdd, Nat.reduceLeDiff, Nat.reduceMul, Nat.reduceLT, Nat.reduceBEq, Int.reduceLT, Int.reduceLE, Int.reduceToNat, Int.reduceAdd, Int.reduceSub, Int.reduceEq, Int.reduceNeg, ↓reduceIte]


theorem l_ixWrite (i k : Nat) (pf nn : Bool) (xs : List TWrite) (p : TWrite → Bool) (g : Nat) (cap : List V) (hc : CallP tbl g []) (hcap : ∀ d, amMap (reify (d + 1)) cap = .ret cap) (hsc : scrubs 0 cap = cap)
    (hp : ∀ a, a ∈ xs → pureOf (Lv ctx i) g (eWr a :: cap) = some (bV (p a))) (hx : xs.length ≤ BB) (q : Out → St → Option Ans) (Q : V → Hp → Nat → Prop) (u : Dum fun s q => evC ctx (Lv ctx i) (pureOf (Lv ctx i)) k c169_1 s (restK [0, 1, 7, 8] q)) (w : Dum q) : ∀ (suf pre : List TWrite) (kk : Nat), xs = pre ++ suf → suf.length < kk →
    GL 0 [0, 1, 7, 8] (fun s q => evC ctx (Lv ctx i) (pureOf (Lv ctx i)) k c169_1 s (restK [0, 1, 7, 8] q)) q kk ⟨ofLive [0, 1, 7, 8] [.isl pf nn 3 (xs.map eWr), .fn (.func g) [] cap, iV xs.length, iV pre.length], emptyHp, 0⟩ Q u w =
    optFin q Q ⟨ofLive [] [], emptyHp, 0⟩ (fun j => ⟨ofLive [4] [iV j], emptyHp, 0⟩) (findGo p pre.length suf)
  | [], pre, kk, hxs, hk => by
    obtain ⟨kk, rfl⟩ : ∃ m, kk = m + 1 := ⟨kk - 1, by simp at hk; omega⟩
    have h1 : decide ((pre.length : Int) < xs.length) = false := by simp [hxs]
    simp (config := { contextual := true, dsimp := false, implicitDefEqProofs := false, maxSteps := 5000000 }) only [gLs, ↓un_c (c169_1.eq_1), h1, hcap, hsc, findGo, optFin_none, go_sem, Nat.reduceEqDiff, Nat.reduceAdd, Nat.reduceLeDiff, Nat.reduceMul, Nat.reduceLT, Nat.reduceBEq, Int.reduceLT, Int.reduceLE, Int.reduceToNat, Int.reduceAdd, Int.reduceSub, Int.reduceEq, Int.reduceNeg, ↓reduceIte]
  | a :: suf, pre, kk, hxs, hk => by
    obtain ⟨kk, rfl⟩ : ∃ m, kk = m + 1 := ⟨kk - 1, by simp at hk; omega⟩
    have hl : pre.length < xs.length := by simp [hxs]
    have h1 : decide ((pre.length : Int) < xs.length) = true := by simpa using hl
    have h2 : ((pre.length : Int) < xs.length) = True := by simpa using hl
    have h3 : (0 ≤ (pre.length : Int)) = True := by simp
    have h4 := wrN pre.length (by omega)
    have hg : xs[pre.length]? = some a := by simp [hxs]
    have hpa := hp a (by simp [hxs])
    simp only [eWr] at hpa
    have ih := l_ixWrite i k pf nn xs p g cap hc hcap hsc hp hx q Q u w suf (pre ++ [a]) kk (by simp [hxs]) (by simpa using hk)
    rw [append_len1] at ih
    cases hb : p a <;> rw [hb] at hpa <;> simp (config := { contextual := true, dsimp := false, implicitDefEqProofs := false, maxSteps := 5000000 }) only [gLs, ↓un_c (c169_1.eq_1), h1, h2, h3, h4, hcap, hsc, findGo, optFin_some, hg, hpa, hb, hc, ih, Int.toNat_natCast, List.getElem?_map, go_sem, Nat.reduceEqDiff, Nat.reduceAdd, Nat.reduceLeDiff, Nat.reduceMul, Nat.reduceLT, Nat.reduceBEq, Int.reduceLT, Int.reduceLE, Int.reduceToNat, Int.reduceAdd, Int.reduceSub, Int.reduceEq, Int.reduceNeg, ↓reduceIte]
theorem s_cfWrite (i : Nat) (pf nn : Bool) (xs : List TWrite) (p : TWrite → Bool) (g : Nat) (cap : List V) (hc : CallP tbl g []) (hcap : ∀ d, amMap (reify (d + 1)) cap = .ret cap) (hsc : scrubs 0 cap = cap) (hn : ones cap = true) 
    (hp : ∀ a, a ∈ xs → pureOf (Lv ctx i) g (eWr a :: cap) = some (bV (p a))) (hx : xs.length ≤ BB) : pureOf (Lv ctx (i + 2)) 159 [.isl pf nn 3 (xs.map eWr), .fn (.func g) [] cap] = some (bV (xs.any p)) := by
  have h1 : pureOf (Lv ctx (i + 1)) 169 [.isl pf nn 3 (xs.map eWr), .fn (.func g) [] cap] = some (iV (idxOf (findGo p 0 xs))) := by
    refine sp_of rfl (xs.length + 1) (by rfl) ?_
    delta c169
    have hl := fun q Q u w => l_ixWrite i (xs.length + 1) pf nn xs p g cap hc hcap hsc hp hx q Q u w xs [] (xs.length + 1) rfl (by omega)
    simp only [List.length_nil, Int.natCast_zero] at hl
    simp (config := { contextual := true, dsimp := false, implicitDefEqProofs := false, maxSteps := 5000000 }) only [hl, go_sem, Nat.reduceEqDiff, Nat.reduceAdd, Nat.reduceLeDiff, Nat.reduceMul, Nat.reduceLT, Nat.reduceBEq, Int.reduceLT, Int.reduceLE, Int.reduceToNat, Int.reduceAdd, Int.reduceSub, Int.reduceEq, Int.reduceNeg, ↓reduceIte]
    cases findGo p 0 xs <;> simp (config := { contextual := true, dsimp := false, implicitDefEqProofs := false, maxSteps := 5000000 }) only [optFin_none, optFin_some, idxOf, go_sem, Nat.reduceEqDiff, Nat.reduceAdd, Nat.reduceLeDiff, Nat.reduceMul, Nat.reduceLT, Nat.reduceBEq, Int.reduceLT, Int.reduceLE, Int.reduceToNat, Int.reduceAdd, Int.reduceSub, Int.reduceEq, Int.reduceNeg, ↓reduceIte]
  refine sp_of rfl 0 (by rfl) ?_
  delta c159
  simp (config := { contextual := true, dsimp := false, implicitDefEqProofs := false, maxSteps := 5000000 }) only [h1, hcap, findGo_any, go_sem, Nat.reduceEqDiff, Nat.reduceAdd, Nat.reduceLeDiff, Nat.reduceMul, Nat.reduceLT, Nat.reduceBEq, Int.reduceLT, Int.reduceLE, Int.reduceToNat, Int.reduceAdd, Int.reduceSub, Int.reduceEq, Int.reduceNeg, ↓reduceIte]


theorem l_ixInst (i k : Nat) (pf nn : Bool) (xs : List TInst) (p : TInst → Bool) (g : Nat) (cap : List V) (hc : CallP tbl g []) (hcap : ∀ d, amMap (reify (d + 1)) cap = .ret cap) (hsc : scrubs 0 cap = cap)
    (hp : ∀ a, a ∈ xs → pureOf (Lv ctx i) g (eI a :: cap) = some (bV (p a))) (hx : xs.length ≤ BB) (q : Out → St → Option Ans) (Q : V → Hp → Nat → Prop) (u : Dum fun s q => evC ctx (Lv ctx i) (pureOf (Lv ctx i)) k c170_1 s (restK [0, 1, 7, 8] q)) (w : Dum q) : ∀ (suf pre : List TInst) (kk : Nat), xs = pre ++ suf → suf.length < kk →
    GL 0 [0, 1, 7, 8] (fun s q => evC ctx (Lv ctx i) (pureOf (Lv ctx i)) k c170_1 s (restK [0, 1, 7, 8] q)) q kk ⟨ofLive [0, 1, 7, 8] [.isl pf nn 4 (xs.map eI), .fn (.func g) [] cap, iV xs.length, iV pre.length], emptyHp, 0⟩ Q u w =
    optFin q Q ⟨ofLive [] [], emptyHp, 0⟩ (fun j => ⟨ofLive [4] [iV j], emptyHp, 0⟩) (findGo p pre.length suf)
  | [], pre, kk, hxs, hk => by
    obtain ⟨kk, rfl⟩ : ∃ m, kk = m + 1 := ⟨kk - 1, by simp at hk; omega⟩
    have h1 : decide ((pre.length : Int) < xs.length) = false := by simp [hxs]
    simp (config := { contextual := true, dsimp := false, implicitDefEqProofs := false, maxSteps := 5000000 }) only [gLs, ↓un_c (c170_1.eq_1), h1, hcap, hsc, findGo, optFin_none, go_sem, Nat.reduceEqDiff, Nat.reduceAdd, Nat.reduceLeDiff, Nat.reduceMul, Nat.reduceLT, Nat.reduceBEq, Int.reduceLT, Int.reduceLE, Int.reduceToNat, Int.reduceAdd, Int.reduceSub, Int.reduceEq, Int.reduceNeg, ↓reduceIte]
  | a :: suf, pre, kk, hxs, hk => by
    obtain ⟨kk, rfl⟩ : ∃ m, kk = m + 1 := ⟨kk - 1, by simp at hk; omega⟩
    have hl : pre.length < xs.length := by simp [hxs]
    have h1 : decide ((pre.length : Int) < xs.length) = true := by simpa using hl
    have h2 : ((pre.length : Int) < xs.length) = True := by simpa using hl
    have h3 : (0 ≤ (pre.length : Int)) = True := by simp
    have h4 := wrN pre.length (by omega)
    have hg : xs[pre.length]? = some a := by simp [hxs]
    have hpa := hp a (by simp [hxs])
    simp only [eI] at hpa
    have ih := l_ixInst i k pf nn xs p g cap hc hcap hsc hp hx q Q u w suf (pre ++ [a]) kk (by simp [hxs]) (by simpa using hk)
    rw [append_len1] at ih
    cases hb : p a <;> rw [hb] at hpa <;> simp (config := { contextual := true, dsimp := false, implicitDefEqProofs := false, maxSteps := 5000000 }) only [gLs, ↓un_c (c170_1.eq_1), h1, h2, h3, h4, hcap, hsc, findGo, optFin_some, hg, hpa, hb, hc, ih, Int.toNat_natCast, List.getElem?_map, go_sem, Nat.reduceEqDiff, Nat.reduceAdd, Nat.reduceLeDiff, Nat.reduceMul, Nat.reduceLT, Nat.reduceBEq, Int.reduceLT, Int.reduceLE, Int.reduceToNat, Int.reduceAdd, Int.reduceSub, Int.reduceEq, Int.reduceNeg, ↓reduceIte]
theorem s_cfInst (i : Nat) (pf nn : Bool) (xs : List TInst) (p : TInst → Bool) (g : Nat) (cap : List V) (hc : CallP tbl g []) (hcap : ∀ d, amMap (reify (d + 1)) cap = .ret cap) (hsc : scrubs 0 cap = cap) (hn : ones cap = true) 
    (hp : ∀ a, a ∈ xs → pureOf (Lv ctx i) g (eI a :: cap) = some (bV (p a))) (hx : xs.length ≤ BB) : pureOf (Lv ctx (i + 2)) 161 [.isl pf nn 4 (xs.map eI), .fn (.func g) [] cap] = some (bV (xs.any p)) := by
  have h1 : pureOf (Lv ctx (i + 1)) 170 [.isl pf nn 4 (xs.map eI), .fn (.func g) [] cap] = some (iV (idxOf (findGo p 0 xs))) := by
    refine sp_of rfl (xs.length + 1) (by rfl) ?_
    delta c170
    have hl := fun q Q u w => l_ixInst i (xs.length + 1) pf nn xs p g cap hc hcap hsc hp hx q Q u w xs [] (xs.length + 1) rfl (by omega)
    simp only [List.length_nil, Int.natCast_zero] at hl
    simp (config := { contextual := true, dsimp := false, implicitDefEqProofs := false, maxSteps := 5000000 }) only [hl, go_sem, Nat.reduceEqDiff, Nat.reduceAdd, Nat.reduceLeDiff, Nat.reduceMul, Nat.reduceLT, Nat.reduceBEq, Int.reduceLT, Int.reduceLE, Int.reduceToNat, Int.reduceAdd, Int.reduceSub, Int.reduceEq, Int.reduceNeg, ↓reduceIte]
    cases findGo p 0 xs <;> simp (config := { contextual := true, dsimp := false, implicitDefEqProofs := false, maxSteps := 5000000 }) only [optFin_none, optFin_some, idxOf, go_sem, Nat.reduceEqDiff, Nat.reduceAdd, Nat.reduceLeDiff, Nat.reduceMul, Nat.reduceLT, Nat.reduceBEq, Int.reduceLT, Int.reduceLE, Int.reduceToNat, Int.reduceAdd, Int.reduceSub, Int.reduceEq, Int.reduceNeg, ↓reduceIte]
  refine sp_of rfl 0 (by rfl) ?_
  delta c161
  simp (config := { contextual := true, dsimp := false, implicitDefEqProofs := false, maxSteps := 5000000 }) only [h1, hcap, findGo_any, go_sem, Nat.reduceEqDiff, Nat.reduceAdd, Nat.reduceLeDiff, Nat.reduceMul, Nat.reduceLT, Nat.reduceBEq, Int.reduceLT, Int.reduceLE, Int.reduceToNat, Int.reduceAdd, Int.reduceSub, Int.reduceEq, Int.reduceNeg, ↓reduceIte]

end Ve

/- SameX. -/
namespace Ve
open Go Ve.Ab
set_option maxRecDepth 10000
set_option linter.unusedSimpArgs false
theorem sess_eq (a b : TSess) : a = b ↔ a.id = b.id ∧ a.label = b.label ∧ a.clear = b.clear ∧ a.prog = b.prog ∧ a.step = b.step ∧ a.pc = b.pc ∧ a.regs.a0 = b.regs.a0 ∧ a.regs.a1 = b.regs.a1 ∧ a.regs.a2 = b.regs.a2 ∧ a.regs.a3 = b.regs.a3 ∧ a.reads = b.reads ∧ a.writes = b.writes ∧ a.at_ = b.at_ ∧ a.stamp = b.stamp ∧ a.tries = b.tries ∧ a.result = b.result ∧ a.told = b.told := by
  rcases a with ⟨_, _, _, _, _, _, ⟨_, _, _, _⟩, _, _, _, _, _, _, _⟩
  rcases b with ⟨_, _, _, _, _, _, ⟨_, _, _, _⟩, _, _, _, _, _, _, _⟩
  simp [and_assoc]
def boolFin (b : Bool) (q : Out → St → Option Ans) (Q : V → Hp → Nat → Prop) (s1 s2 : St) : Prop :=
  match b with
  | true => Fin (q (.exit 0) s1) Q
  | false => Fin (q .ret s2) Q
theorem boolFin_t (q : Out → St → Option Ans) (Q : V → Hp → Nat → Prop) (s1 s2 : St) : boolFin true q Q s1 s2 = Fin (q (.exit 0) s1) Q := (rfl)
theorem boolFin_f (q : Out → St → Option Ans) (Q : V → Hp → Nat → Prop) (s1 s2 : St) : boolFin false q Q s1 s2 = Fin (q .ret s2) Q := (rfl)


theorem l_sameWords (i k : Nat) (pa na pb nb : Bool) (xs ys : List TWord) (hx : xs.length ≤ BB) (q : Out → St → Option Ans) (Q : V → Hp → Nat → Prop) (u : Dum (fun s q => evC ctx (Lv ctx i) (pureOf (Lv ctx i)) k c64_1 s (restK [0, 1, 5] q))) (w : Dum q) : ∀ (suf suf' pre pre' : List TWord) (kk : Nat), xs = pre ++ suf → ys = pre' ++ suf' → pre.length = pre'.length → suf.length = suf'.length → suf.length < kk →
    GL 0 [0, 1, 5] (fun s q => evC ctx (Lv ctx i) (pureOf (Lv ctx i)) k c64_1 s (restK [0, 1, 5] q)) q kk ⟨ofLive [0, 1, 5] [.isl pa na 3 (xs.map eW), .isl pb nb 3 (ys.map eW), iV pre.length], emptyHp, 0⟩ Q u w = boolFin (decide (suf = suf')) q Q ⟨ofLive [] [], emptyHp, 0⟩ ⟨ofLive [4] [bV false], emptyHp, 0⟩
  | [], suf', pre, pre', kk, hxs, hys, hpl, hsl, hk => by
    obtain ⟨kk, rfl⟩ : ∃ m, kk = m + 1 := ⟨kk - 1, by simp at hk; omega⟩
    obtain rfl : suf' = [] := by cases suf' <;> simp_all
    have h1 : decide ((pre.length : Int) < xs.length) = false := by simp [hxs]
    simp (config := { contextual := true, dsimp := false, implicitDefEqProofs := false, maxSteps := 5000000 }) only [gLs, ↓un_c (c64_1.eq_1), h1, boolFin_t, go_sem, Nat.reduceEqDiff, Nat.reduceAdd, Nat.reduceLeDiff, Nat.reduceMul, Nat.reduceLT, Nat.reduceBEq, Int.reduceLT, Int.reduceLE, Int.reduceToNat, Int.reduceAdd, Int.reduceSub, Int.reduceEq, Int.reduceNeg, ↓reduceIte]
  | a :: suf, [], pre, pre', kk, hxs, hys, hpl, hsl, hk => by simp at hsl
  | a :: suf, b :: suf', pre, pre', kk, hxs, hys, hpl, hsl, hk => by
    obtain ⟨kk, rfl⟩ : ∃ m, kk = m + 1 := ⟨kk - 1, by simp at hk; omega⟩
    have hl : pre.length < xs.length := by simp [hxs]
    have hl' : pre.length < ys.length := by simp [hys, hpl]
    have h2 : ((pre.length : Int) < xs.length) = True := by simpa using hl
    have h2' : ((pre.length : Int) < ys.length) = True := by simpa using hl'
    have h3 : (0 ≤ (pre.length : Int)) = True := by simp
    have h4 := wrN pre.length (by omega)
    have hg : xs[pre.length]? = some a := by simp [hxs]
    have hg' : ys[pre.length]? = some b := by simp [hys, hpl]
    have ih := l_sameWords i k pa na pb nb xs ys hx q Q u w suf suf' (pre ++ [a]) (pre' ++ [b]) kk (by simp [hxs]) (by simp [hys]) (by simpa using hpl) (by simpa using hsl) (by simpa using hk)
    rw [append_len1] at ih
    by_cases hab : a = b
    · subst hab
      have hd : decide (a :: suf = a :: suf') = decide (suf = suf') := by simp
      rw [hd]
      simp (config := { contextual := true, dsimp := false, implicitDefEqProofs := false, maxSteps := 5000000 }) only [gLs, ↓un_c (c64_1.eq_1), h2, h2', h3, h4, hg, hg', ih, go_sem, Nat.reduceEqDiff, Nat.reduceAdd, Nat.reduceLeDiff, Nat.reduceMul, Nat.reduceLT, Nat.reduceBEq, Int.reduceLT, Int.reduceLE, Int.reduceToNat, Int.reduceAdd, Int.reduceSub, Int.reduceEq, Int.reduceNeg, ↓reduceIte]
    · have hne : (decide (a.val = b.val) && (decide (a.ver = b.ver) && (decide (a.lock = b.lock)))) = false := by cases a; cases b; simp_all
      have hd : decide (a :: suf = b :: suf') = false := by simp [hab]
      rw [hd]
      simp (config := { contextual := true, dsimp := false, implicitDefEqProofs := false, maxSteps := 5000000 }) only [gLs, ↓un_c (c64_1.eq_1), h2, h2', h3, h4, hg, hg', hne, boolFin_f, go_sem, Nat.reduceEqDiff, Nat.reduceAdd, Nat.reduceLeDiff, Nat.reduceMul, Nat.reduceLT, Nat.reduceBEq, Int.reduceLT, Int.reduceLE, Int.reduceToNat, Int.reduceAdd, Int.reduceSub, Int.reduceEq, Int.reduceNeg, ↓reduceIte]
theorem s_sameWords (i : Nat) (pa na pb nb : Bool) (xs ys : List TWord) (hx : xs.length ≤ BB) : pureOf (Lv ctx (i + 1)) 64 [.isl pa na 3 (xs.map eW), .isl pb nb 3 (ys.map eW)] = some (bV (decide (xs = ys))) := by
  refine sp_of rfl (xs.length + 1) (by rfl) ?_
  delta c64
  by_cases hl : xs.length = ys.length
  · have h1 : decide ((xs.length : Int) = ys.length) = true := by simp [hl]
    have h2 := fun q Q u w => l_sameWords i (xs.length + 1) pa na pb nb xs ys hx q Q u w xs ys [] [] (xs.length + 1) rfl rfl rfl hl (by omega)
    simp only [List.length_nil, Int.natCast_zero] at h2
    cases hb : decide (xs = ys) <;> rw [hb] at h2 <;> simp (config := { contextual := true, dsimp := false, implicitDefEqProofs := false, maxSteps := 5000000 }) only [h1, h2, boolFin_t, boolFin_f, go_sem, Nat.reduceEqDiff, Nat.reduceAdd, Nat.reduceLeDiff, Nat.reduceMul, Nat.reduceLT, Nat.reduceBEq, Int.reduceLT, Int.reduceLE, Int.reduceToNat, Int.reduceAdd, Int.reduceSub, Int.reduceEq, Int.reduceNeg, ↓reduceIte]
  · have h1 : decide ((xs.length : Int) = ys.length) = false := by simpa using fun h : (xs.length : Int) = ys.length => hl (by omega)
    have h2 : decide (xs = ys) = false := by simpa using fun h : xs = ys => hl (by rw [h])
    simp (config := { contextual := true, dsimp := false, implicitDefEqProofs := false, maxSteps := 5000000 }) only [h1, h2, go_sem, Nat.reduceEqDiff, Nat.reduceAdd, Nat.reduceLeDiff, Nat.reduceMul, Nat.reduceLT, Nat.reduceBEq, Int.reduceLT, Int.reduceLE, Int.reduceToNat, Int.reduceAdd, Int.reduceSub, Int.reduceEq, Int.reduceNeg, ↓reduceIte]


theorem l_sameInsts (i k : Nat) (pa na pb nb : Bool) (xs ys : List TInst) (hx : xs.length ≤ BB) (q : Out → St → Option Ans) (Q : V → Hp → Nat → Prop) (u : Dum (fun s q => evC ctx (Lv ctx i) (pureOf (Lv ctx i)) k c51_1 s (restK [0, 1, 5] q))) (w : Dum q) : ∀ (suf suf' pre pre' : List TInst) (kk : Nat), xs = pre ++ suf → ys = pre' ++ suf' → pre.length = pre'.length → suf.length = suf'.length → suf.length < kk →
    GL 0 [0, 1, 5] (fun s q => evC ctx (Lv ctx i) (pureOf (Lv ctx i)) k c51_1 s (restK [0, 1, 5] q)) q kk ⟨ofLive [0, 1, 5] [.isl pa na 4 (xs.map eI), .isl pb nb 4 (ys.map eI), iV pre.length], emptyHp, 0⟩ Q u w = boolFin (decide (suf = suf')) q Q ⟨ofLive [] [], emptyHp, 0⟩ ⟨ofLive [4] [bV false], emptyHp, 0⟩
  | [], suf', pre, pre', kk, hxs, hys, hpl, hsl, hk => by
    obtain ⟨kk, rfl⟩ : ∃ m, kk = m + 1 := ⟨kk - 1, by simp at hk; omega⟩
    obtain rfl : suf' = [] := by cases suf' <;> simp_all
    have h1 : decide ((pre.length : Int) < xs.length) = false := by simp [hxs]
    simp (config := { contextual := true, dsimp := false, implicitDefEqProofs := false, maxSteps := 5000000 }) only [gLs, ↓un_c (c51_1.eq_1), h1, boolFin_t, go_sem, Nat.reduceEqDiff, Nat.reduceAdd, Nat.reduceLeDiff, Nat.reduceMul, Nat.reduceLT, Nat.reduceBEq, Int.reduceLT, Int.reduceLE, Int.reduceToNat, Int.reduceAdd, Int.reduceSub, Int.reduceEq, Int.reduceNeg, ↓reduceIte]
  | a :: suf, [], pre, pre', kk, hxs, hys, hpl, hsl, hk => by simp at hsl
  | a :: suf, b :: suf', pre, pre', kk, hxs, hys, hpl, hsl, hk => by
    obtain ⟨kk, rfl⟩ : ∃ m, kk = m + 1 := ⟨kk - 1, by simp at hk; omega⟩
    have hl : pre.length < xs.length := by simp [hxs]
    have hl' : pre.length < ys.length := by simp [hys, hpl]
    have h2 : ((pre.length : Int) < xs.length) = True := by simpa using hl
    have h2' : ((pre.length : Int) < ys.length) = True := by simpa using hl'
    have h3 : (0 ≤ (pre.length : Int)) = True := by simp
    have h4 := wrN pre.length (by omega)
    have hg : xs[pre.length]? = some a := by simp [hxs]
    have hg' : ys[pre.length]? = some b := by simp [hys, hpl]
    have ih := l_sameInsts i k pa na pb nb xs ys hx q Q u w suf suf' (pre ++ [a]) (pre' ++ [b]) kk (by simp [hxs]) (by simp [hys]) (by simpa using hpl) (by simpa using hsl) (by simpa using hk)
    rw [append_len1] at ih
    by_cases hab : a = b
    · subst hab
      have hd : decide (a :: suf = a :: suf') = decide (suf = suf') := by simp
      rw [hd]
      simp (config := { contextual := true, dsimp := false, implicitDefEqProofs := false, maxSteps := 5000000 }) only [gLs, ↓un_c (c51_1.eq_1), h2, h2', h3, h4, hg, hg', ih, go_sem, Nat.reduceEqDiff, Nat.reduceAdd, Nat.reduceLeDiff, Nat.reduceMul, Nat.reduceLT, Nat.reduceBEq, Int.reduceLT, Int.reduceLE, Int.reduceToNat, Int.reduceAdd, Int.reduceSub, Int.reduceEq, Int.reduceNeg, ↓reduceIte]
    · have hne : (decide (a.code = b.code) && (decide (a.a = b.a) && (decide (a.b = b.b) && (decide (a.c = b.c))))) = false := by cases a; cases b; simp_all
      have hd : decide (a :: suf = b :: suf') = false := by simp [hab]
      rw [hd]
      simp (config := { contextual := true, dsimp := false, implicitDefEqProofs := false, maxSteps := 5000000 }) only [gLs, ↓un_c (c51_1.eq_1), h2, h2', h3, h4, hg, hg', hne, boolFin_f, go_sem, Nat.reduceEqDiff, Nat.reduceAdd, Nat.reduceLeDiff, Nat.reduceMul, Nat.reduceLT, Nat.reduceBEq, Int.reduceLT, Int.reduceLE, Int.reduceToNat, Int.reduceAdd, Int.reduceSub, Int.reduceEq, Int.reduceNeg, ↓reduceIte]
theorem s_sameInsts (i : Nat) (pa na pb nb : Bool) (xs ys : List TInst) (hx : xs.length ≤ BB) : pureOf (Lv ctx (i + 1)) 51 [.isl pa na 4 (xs.map eI), .isl pb nb 4 (ys.map eI)] = some (bV (decide (xs = ys))) := by
  refine sp_of rfl (xs.length + 1) (by rfl) ?_
  delta c51
  by_cases hl : xs.length = ys.length
  · have h1 : decide ((xs.length : Int) = ys.length) = true := by simp [hl]
    have h2 := fun q Q u w => l_sameInsts i (xs.length + 1) pa na pb nb xs ys hx q Q u w xs ys [] [] (xs.length + 1) rfl rfl rfl hl (by omega)
    simp only [List.length_nil, Int.natCast_zero] at h2
    cases hb : decide (xs = ys) <;> rw [hb] at h2 <;> simp (config := { contextual := true, dsimp := false, implicitDefEqProofs := false, maxSteps := 5000000 }) only [h1, h2, boolFin_t, boolFin_f, go_sem, Nat.reduceEqDiff, Nat.reduceAdd, Nat.reduceLeDiff, Nat.reduceMul, Nat.reduceLT, Nat.reduceBEq, Int.reduceLT, Int.reduceLE, Int.reduceToNat, Int.reduceAdd, Int.reduceSub, Int.reduceEq, Int.reduceNeg, ↓reduceIte]
  · have h1 : decide ((xs.length : Int) = ys.length) = false := by simpa using fun h : (xs.length : Int) = ys.length => hl (by omega)
    have h2 : decide (xs = ys) = false := by simpa using fun h : xs = ys => hl (by rw [h])
    simp (config := { contextual := true, dsimp := false, implicitDefEqProofs := false, maxSteps := 5000000 }) only [h1, h2, go_sem, Nat.reduceEqDiff, Nat.reduceAdd, Nat.reduceLeDiff, Nat.reduceMul, Nat.reduceLT, Nat.reduceBEq, Int.reduceLT, Int.reduceLE, Int.reduceToNat, Int.reduceAdd, Int.reduceSub, Int.reduceEq, Int.reduceNeg, ↓reduceIte]


theorem l_sameReads (i k : Nat) (pa na pb nb : Bool) (xs ys : List TRead) (hx : xs.length ≤ BB) (q : Out → St → Option Ans) (Q : V → Hp → Nat → Prop) (u : Dum (fun s q => evC ctx (Lv ctx i) (pureOf (Lv ctx i)) k c52_1 s (restK [0, 1, 5] q))) (w : Dum q) : ∀ (suf suf' pre pre' : List TRead) (kk : Nat), xs = pre ++ suf → ys = pre' ++ suf' → pre.length = pre'.length → suf.length = suf'.length → suf.length < kk →
    GL 0 [0, 1, 5] (fun s q => evC ctx (Lv ctx i) (pureOf (Lv ctx i)) k c52_1 s (restK [0, 1, 5] q)) q kk ⟨ofLive [0, 1, 5] [.isl pa na 3 (xs.map eR), .isl pb nb 3 (ys.map eR), iV pre.length], emptyHp, 0⟩ Q u w = boolFin (decide (suf = suf')) q Q ⟨ofLive [] [], emptyHp, 0⟩ ⟨ofLive [4] [bV false], emptyHp, 0⟩
  | [], suf', pre, pre', kk, hxs, hys, hpl, hsl, hk => by
    obtain ⟨kk, rfl⟩ : ∃ m, kk = m + 1 := ⟨kk - 1, by simp at hk; omega⟩
    obtain rfl : suf' = [] := by cases suf' <;> simp_all
    have h1 : decide ((pre.length : Int) < xs.length) = false := by simp [hxs]
    simp (config := { contextual := true, dsimp := false, implicitDefEqProofs := false, maxSteps := 5000000 }) only [gLs, ↓un_c (c52_1.eq_1), h1, boolFin_t, go_sem, Nat.reduceEqDiff, Nat.reduceAdd, Nat.reduceLeDiff, Nat.reduceMul, Nat.reduceLT, Nat.reduceBEq, Int.reduceLT, Int.reduceLE, Int.reduceToNat, Int.reduceAdd, Int.reduceSub, Int.reduceEq, Int.reduceNeg, ↓reduceIte]
  | a :: suf, [], pre, pre', kk, hxs, hys, hpl, hsl, hk => by simp at hsl
  | a :: suf, b :: suf', pre, pre', kk, hxs, hys, hpl, hsl, hk => by
    obtain ⟨kk, rfl⟩ : ∃ m, kk = m + 1 := ⟨kk - 1, by simp at hk; omega⟩
    have hl : pre.length < xs.length := by simp [hxs]
    have hl' : pre.length < ys.length := by simp [hys, hpl]
    have h2 : ((pre.length : Int) < xs.length) = True := by simpa using hl
    have h2' : ((pre.length : Int) < ys.length) = True := by simpa using hl'
    have h3 : (0 ≤ (pre.length : Int)) = True := by simp
    have h4 := wrN pre.length (by omega)
    have hg : xs[pre.length]? = some a := by simp [hxs]
    have hg' : ys[pre.length]? = some b := by simp [hys, hpl]
    have ih := l_sameReads i k pa na pb nb xs ys hx q Q u w suf suf' (pre ++ [a]) (pre' ++ [b]) kk (by simp [hxs]) (by simp [hys]) (by simpa using hpl) (by simpa using hsl) (by simpa using hk)
    rw [append_len1] at ih
    by_cases hab : a = b
    · subst hab
      have hd : decide (a :: suf = a :: suf') = decide (suf = suf') := by simp
      rw [hd]
      simp (config := { contextual := true, dsimp := false, implicitDefEqProofs := false, maxSteps := 5000000 }) only [gLs, ↓un_c (c52_1.eq_1), h2, h2', h3, h4, hg, hg', ih, go_sem, Nat.reduceEqDiff, Nat.reduceAdd, Nat.reduceLeDiff, Nat.reduceMul, Nat.reduceLT, Nat.reduceBEq, Int.reduceLT, Int.reduceLE, Int.reduceToNat, Int.reduceAdd, Int.reduceSub, Int.reduceEq, Int.reduceNeg, ↓reduceIte]
    · have hne : (decide (a.level = b.level) && (decide (a.index = b.index) && (decide (a.ver = b.ver)))) = false := by cases a; cases b; simp_all
      have hd : decide (a :: suf = b :: suf') = false := by simp [hab]
      rw [hd]
      simp (config := { contextual := true, dsimp := false, implicitDefEqProofs := false, maxSteps := 5000000 }) only [gLs, ↓un_c (c52_1.eq_1), h2, h2', h3, h4, hg, hg', hne, boolFin_f, go_sem, Nat.reduceEqDiff, Nat.reduceAdd, Nat.reduceLeDiff, Nat.reduceMul, Nat.reduceLT, Nat.reduceBEq, Int.reduceLT, Int.reduceLE, Int.reduceToNat, Int.reduceAdd, Int.reduceSub, Int.reduceEq, Int.reduceNeg, ↓reduceIte]
theorem s_sameReads (i : Nat) (pa na pb nb : Bool) (xs ys : List TRead) (hx : xs.length ≤ BB) : pureOf (Lv ctx (i + 1)) 52 [.isl pa na 3 (xs.map eR), .isl pb nb 3 (ys.map eR)] = some (bV (decide (xs = ys))) := by
  refine sp_of rfl (xs.length + 1) (by rfl) ?_
  delta c52
  by_cases hl : xs.length = ys.length
  · have h1 : decide ((xs.length : Int) = ys.length) = true := by simp [hl]
    have h2 := fun q Q u w => l_sameReads i (xs.length + 1) pa na pb nb xs ys hx q Q u w xs ys [] [] (xs.length + 1) rfl rfl rfl hl (by omega)
    simp only [List.length_nil, Int.natCast_zero] at h2
    cases hb : decide (xs = ys) <;> rw [hb] at h2 <;> simp (config := { contextual := true, dsimp := false, implicitDefEqProofs := false, maxSteps := 5000000 }) only [h1, h2, boolFin_t, boolFin_f, go_sem, Nat.reduceEqDiff, Nat.reduceAdd, Nat.reduceLeDiff, Nat.reduceMul, Nat.reduceLT, Nat.reduceBEq, Int.reduceLT, Int.reduceLE, Int.reduceToNat, Int.reduceAdd, Int.reduceSub, Int.reduceEq, Int.reduceNeg, ↓reduceIte]
  · have h1 : decide ((xs.length : Int) = ys.length) = false := by simpa using fun h : (xs.length : Int) = ys.length => hl (by omega)
    have h2 : decide (xs = ys) = false := by simpa using fun h : xs = ys => hl (by rw [h])
    simp (config := { contextual := true, dsimp := false, implicitDefEqProofs := false, maxSteps := 5000000 }) only [h1, h2, go_sem, Nat.reduceEqDiff, Nat.reduceAdd, Nat.reduceLeDiff, Nat.reduceMul, Nat.reduceLT, Nat.reduceBEq, Int.reduceLT, Int.reduceLE, Int.reduceToNat, Int.reduceAdd, Int.reduceSub, Int.reduceEq, Int.reduceNeg, ↓reduceIte]


theorem l_sameWrites (i k : Nat) (pa na pb nb : Bool) (xs ys : List TWrite) (hx : xs.length ≤ BB) (q : Out → St → Option Ans) (Q : V → Hp → Nat → Prop) (u : Dum (fun s q => evC ctx (Lv ctx i) (pureOf (Lv ctx i)) k c53_1 s (restK [0, 1, 5] q))) (w : Dum q) : ∀ (suf suf' pre pre' : List TWrite) (kk : Nat), xs = pre ++ suf → ys = pre' ++ suf' → pre.length = pre'.length → suf.length = suf'.length → suf.length < kk →
    GL 0 [0, 1, 5] (fun s q => evC ctx (Lv ctx i) (pureOf (Lv ctx i)) k c53_1 s (restK [0, 1, 5] q)) q kk ⟨ofLive [0, 1, 5] [.isl pa na 3 (xs.map eWr), .isl pb nb 3 (ys.map eWr), iV pre.length], emptyHp, 0⟩ Q u w = boolFin (decide (suf = suf')) q Q ⟨ofLive [] [], emptyHp, 0⟩ ⟨ofLive [4] [bV false], emptyHp, 0⟩
  | [], suf', pre, pre', kk, hxs, hys, hpl, hsl, hk => by
    obtain ⟨kk, rfl⟩ : ∃ m, kk = m + 1 := ⟨kk - 1, by simp at hk; omega⟩
    obtain rfl : suf' = [] := by cases suf' <;> simp_all
    have h1 : decide ((pre.length : Int) < xs.length) = false := by simp [hxs]
    simp (config := { contextual := true, dsimp := false, implicitDefEqProofs := false, maxSteps := 5000000 }) only [gLs, ↓un_c (c53_1.eq_1), h1, boolFin_t, go_sem, Nat.reduceEqDiff, Nat.reduceAdd, Nat.reduceLeDiff, Nat.reduceMul, Nat.reduceLT, Nat.reduceBEq, Int.reduceLT, Int.reduceLE, Int.reduceToNat, Int.reduceAdd, Int.reduceSub, Int.reduceEq, Int.reduceNeg, ↓reduceIte]
  | a :: suf, [], pre, pre', kk, hxs, hys, hpl, hsl, hk => by simp at hsl
  | a :: suf, b :: suf', pre, pre', kk, hxs, hys, hpl, hsl, hk => by
    obtain ⟨kk, rfl⟩ : ∃ m, kk = m + 1 := ⟨kk - 1, by simp at hk; omega⟩
    have hl : pre.length < xs.length := by simp [hxs]
    have hl' : pre.length < ys.length := by simp [hys, hpl]
    have h2 : ((pre.length : Int) < xs.length) = True := by simpa using hl
    have h2' : ((pre.length : Int) < ys.length) = True := by simpa using hl'
    have h3 : (0 ≤ (pre.length : Int)) = True := by simp
    have h4 := wrN pre.length (by omega)
    have hg : xs[pre.length]? = some a := by simp [hxs]
    have hg' : ys[pre.length]? = some b := by simp [hys, hpl]
    have ih := l_sameWrites i k pa na pb nb xs ys hx q Q u w suf suf' (pre ++ [a]) (pre' ++ [b]) kk (by simp [hxs]) (by simp [hys]) (by simpa using hpl) (by simpa using hsl) (by simpa using hk)
    rw [append_len1] at ih
    by_cases hab : a = b
    · subst hab
      have hd : decide (a :: suf = a :: suf') = decide (suf = suf') := by simp
      rw [hd]
      simp (config := { contextual := true, dsimp := false, implicitDefEqProofs := false, maxSteps := 5000000 }) only [gLs, ↓un_c (c53_1.eq_1), h2, h2', h3, h4, hg, hg', ih, go_sem, Nat.reduceEqDiff, Nat.reduceAdd, Nat.reduceLeDiff, Nat.reduceMul, Nat.reduceLT, Nat.reduceBEq, Int.reduceLT, Int.reduceLE, Int.reduceToNat, Int.reduceAdd, Int.reduceSub, Int.reduceEq, Int.reduceNeg, ↓reduceIte]
    · have hne : (decide (a.level = b.level) && (decide (a.index = b.index) && (decide (a.val = b.val)))) = false := by cases a; cases b; simp_all
      have hd : decide (a :: suf = b :: suf') = false := by simp [hab]
      rw [hd]
      simp (config := { contextual := true, dsimp := false, implicitDefEqProofs := false, maxSteps := 5000000 }) only [gLs, ↓un_c (c53_1.eq_1), h2, h2', h3, h4, hg, hg', hne, boolFin_f, go_sem, Nat.reduceEqDiff, Nat.reduceAdd, Nat.reduceLeDiff, Nat.reduceMul, Nat.reduceLT, Nat.reduceBEq, Int.reduceLT, Int.reduceLE, Int.reduceToNat, Int.reduceAdd, Int.reduceSub, Int.reduceEq, Int.reduceNeg, ↓reduceIte]
theorem s_sameWrites (i : Nat) (pa na pb nb : Bool) (xs ys : List TWrite) (hx : xs.length ≤ BB) : pureOf (Lv ctx (i + 1)) 53 [.isl pa na 3 (xs.map eWr), .isl pb nb 3 (ys.map eWr)] = some (bV (decide (xs = ys))) := by
  refine sp_of rfl (xs.length + 1) (by rfl) ?_
  delta c53
  by_cases hl : xs.length = ys.length
  · have h1 : decide ((xs.length : Int) = ys.length) = true := by simp [hl]
    have h2 := fun q Q u w => l_sameWrites i (xs.length + 1) pa na pb nb xs ys hx q Q u w xs ys [] [] (xs.length + 1) rfl rfl rfl hl (by omega)
    simp only [List.length_nil, Int.natCast_zero] at h2
    cases hb : decide (xs = ys) <;> rw [hb] at h2 <;> simp (config := { contextual := true, dsimp := false, implicitDefEqProofs := false, maxSteps := 5000000 }) only [h1, h2, boolFin_t, boolFin_f, go_sem, Nat.reduceEqDiff, Nat.reduceAdd, Nat.reduceLeDiff, Nat.reduceMul, Nat.reduceLT, Nat.reduceBEq, Int.reduceLT, Int.reduceLE, Int.reduceToNat, Int.reduceAdd, Int.reduceSub, Int.reduceEq, Int.reduceNeg, ↓reduceIte]
  · have h1 : decide ((xs.length : Int) = ys.length) = false := by simpa using fun h : (xs.length : Int) = ys.length => hl (by omega)
    have h2 : decide (xs = ys) = false := by simpa using fun h : xs = ys => hl (by rw [h])
    simp (config := { contextual := true, dsimp := false, implicitDefEqProofs := false, maxSteps := 5000000 }) only [h1, h2, go_sem, Nat.reduceEqDiff, Nat.reduceAdd, Nat.reduceLeDiff, Nat.reduceMul, Nat.reduceLT, Nat.reduceBEq, Int.reduceLT, Int.reduceLE, Int.reduceToNat, Int.reduceAdd, Int.reduceSub, Int.reduceEq, Int.reduceNeg, ↓reduceIte]


theorem l_sameEvents (i k : Nat) (pa na pb nb : Bool) (xs ys : List TEvent) (hx : xs.length ≤ BB) (q : Out → St → Option Ans) (Q : V → Hp → Nat → Prop) (u : Dum (fun s q => evC ctx (Lv ctx i) (pureOf (Lv ctx i)) k c46_1 s (restK [0, 1, 5] q))) (w : Dum q) : ∀ (suf suf' pre pre' : List TEvent) (kk : Nat), xs = pre ++ suf → ys = pre' ++ suf' → pre.length = pre'.length → suf.length = suf'.length → suf.length < kk →
    GL 0 [0, 1, 5] (fun s q => evC ctx (Lv ctx i) (pureOf (Lv ctx i)) k c46_1 s (restK [0, 1, 5] q)) q kk ⟨ofLive [0, 1, 5] [.isl pa na 4 (xs.map eE), .isl pb nb 4 (ys.map eE), iV pre.length], emptyHp, 0⟩ Q u w = boolFin (decide (suf = suf')) q Q ⟨ofLive [] [], emptyHp, 0⟩ ⟨ofLive [4] [bV false], emptyHp, 0⟩
  | [], suf', pre, pre', kk, hxs, hys, hpl, hsl, hk => by
    obtain ⟨kk, rfl⟩ : ∃ m, kk = m + 1 := ⟨kk - 1, by simp at hk; omega⟩
    obtain rfl : suf' = [] := by cases suf' <;> simp_all
    have h1 : decide ((pre.length : Int) < xs.length) = false := by simp [hxs]
    simp (config := { contextual := true, dsimp := false, implicitDefEqProofs := false, maxSteps := 5000000 }) only [gLs, ↓un_c (c46_1.eq_1), h1, boolFin_t, go_sem, Nat.reduceEqDiff, Nat.reduceAdd, Nat.reduceLeDiff, Nat.reduceMul, Nat.reduceLT, Nat.reduceBEq, Int.reduceLT, Int.reduceLE, Int.reduceToNat, Int.reduceAdd, Int.reduceSub, Int.reduceEq, Int.reduceNeg, ↓reduceIte]
  | a :: suf, [], pre, pre', kk, hxs, hys, hpl, hsl, hk => by simp at hsl
  | a :: suf, b :: suf', pre, pre', kk, hxs, hys, hpl, hsl, hk => by
    obtain ⟨kk, rfl⟩ : ∃ m, kk = m + 1 := ⟨kk - 1, by simp at hk; omega⟩
    have hl : pre.length < xs.length := by simp [hxs]
    have hl' : pre.length < ys.length := by simp [hys, hpl]
    have h2 : ((pre.length : Int) < xs.length) = True := by simpa using hl
    have h2' : ((pre.length : Int) < ys.length) = True := by simpa using hl'
    have h3 : (0 ≤ (pre.length : Int)) = True := by simp
    have h4 := wrN pre.length (by omega)
    have hg : xs[pre.length]? = some a := by simp [hxs]
    have hg' : ys[pre.length]? = some b := by simp [hys, hpl]
    have ih := l_sameEvents i k pa na pb nb xs ys hx q Q u w suf suf' (pre ++ [a]) (pre' ++ [b]) kk (by simp [hxs]) (by simp [hys]) (by simpa using hpl) (by simpa using hsl) (by simpa using hk)
    rw [append_len1] at ih
    by_cases hab : a = b
    · subst hab
      have hd : decide (a :: suf = a :: suf') = decide (suf = suf') := by simp
      rw [hd]
      simp (config := { contextual := true, dsimp := false, implicitDefEqProofs := false, maxSteps := 5000000 }) only [gLs, ↓un_c (c46_1.eq_1), h2, h2', h3, h4, hg, hg', ih, go_sem, Nat.reduceEqDiff, Nat.reduceAdd, Nat.reduceLeDiff, Nat.reduceMul, Nat.reduceLT, Nat.reduceBEq, Int.reduceLT, Int.reduceLE, Int.reduceToNat, Int.reduceAdd, Int.reduceSub, Int.reduceEq, Int.reduceNeg, ↓reduceIte]
    · have hne : (decide (a.id = b.id) && (decide (a.label = b.label) && (decide (a.kind = b.kind) && (decide (a.val = b.val))))) = false := by cases a; cases b; simp_all
      have hd : decide (a :: suf = b :: suf') = false := by simp [hab]
      rw [hd]
      simp (config := { contextual := true, dsimp := false, implicitDefEqProofs := false, maxSteps := 5000000 }) only [gLs, ↓un_c (c46_1.eq_1), h2, h2', h3, h4, hg, hg', hne, boolFin_f, go_sem, Nat.reduceEqDiff, Nat.reduceAdd, Nat.reduceLeDiff, Nat.reduceMul, Nat.reduceLT, Nat.reduceBEq, Int.reduceLT, Int.reduceLE, Int.reduceToNat, Int.reduceAdd, Int.reduceSub, Int.reduceEq, Int.reduceNeg, ↓reduceIte]
theorem s_sameEvents (i : Nat) (pa na pb nb : Bool) (xs ys : List TEvent) (hx : xs.length ≤ BB) : pureOf (Lv ctx (i + 1)) 46 [.isl pa na 4 (xs.map eE), .isl pb nb 4 (ys.map eE)] = some (bV (decide (xs = ys))) := by
  refine sp_of rfl (xs.length + 1) (by rfl) ?_
  delta c46
  by_cases hl : xs.length = ys.length
  · have h1 : decide ((xs.length : Int) = ys.length) = true := by simp [hl]
    have h2 := fun q Q u w => l_sameEvents i (xs.length + 1) pa na pb nb xs ys hx q Q u w xs ys [] [] (xs.length + 1) rfl rfl rfl hl (by omega)
    simp only [List.length_nil, Int.natCast_zero] at h2
    cases hb : decide (xs = ys) <;> rw [hb] at h2 <;> simp (config := { contextual := true, dsimp := false, implicitDefEqProofs := false, maxSteps := 5000000 }) only [h1, h2, boolFin_t, boolFin_f, go_sem, Nat.reduceEqDiff, Nat.reduceAdd, Nat.reduceLeDiff, Nat.reduceMul, Nat.reduceLT, Nat.reduceBEq, Int.reduceLT, Int.reduceLE, Int.reduceToNat, Int.reduceAdd, Int.reduceSub, Int.reduceEq, Int.reduceNeg, ↓reduceIte]
  · have h1 : decide ((xs.length : Int) = ys.length) = false := by simpa using fun h : (xs.length : Int) = ys.length => hl (by omega)
    have h2 : decide (xs = ys) = false := by simpa using fun h : xs = ys => hl (by rw [h])
    simp (config := { contextual := true, dsimp := false, implicitDefEqProofs := false, maxSteps := 5000000 }) only [h1, h2, go_sem, Nat.reduceEqDiff, Nat.reduceAdd, Nat.reduceLeDiff, Nat.reduceMul, Nat.reduceLT, Nat.reduceBEq, Int.reduceLT, Int.reduceLE, Int.reduceToNat, Int.reduceAdd, Int.reduceSub, Int.reduceEq, Int.reduceNeg, ↓reduceIte]


theorem s_sameSession (i : Nat) (pa pb : Bool) (a b : TSess) (h1 : a.prog.length ≤ BB) (h2 : a.reads.length ≤ BB) (h3 : a.writes.length ≤ BB) : pureOf (Lv ctx (i + 2)) 25 [eS pa a, eS pb b] = some (bV (decide (a = b))) := by
  have e1 := s_sameInsts i pa false pb false a.prog b.prog h1
  have e2 := s_sameReads i pa false pb false a.reads b.reads h2
  have e3 := s_sameWrites i pa false pb false a.writes b.writes h3
  simp only [eS]
  refine sp_of rfl 0 (by rfl) ?_
  delta c25
  simp (config := { contextual := true, dsimp := false, implicitDefEqProofs := false, maxSteps := 5000000 }) only [e1, e2, e3, go_sem, Nat.reduceEqDiff, Nat.reduceAdd, Nat.reduceLeDiff, Nat.reduceMul, Nat.reduceLT, Nat.reduceBEq, Int.reduceLT, Int.reduceLE, Int.reduceToNat, Int.reduceAdd, Int.reduceSub, Int.reduceEq, Int.reduceNeg, ↓reduceIte]
  congr 2
  rw [Bool.eq_iff_iff]
  simp only [Bool.and_eq_true, decide_eq_true_eq, sess_eq, and_assoc]
end Ve

/- What may be: the program's. -/
namespace Ve
open Go Ve.Ab
set_option maxRecDepth 10000
set_option linter.unusedSimpArgs false
theorem lab_cases (l : Int) : l = 0 ∨ l = 1 ∨ l = 2 ∨ l = 3 ∨ inR l 3 = false := by
  simp [inR]; omega
theorem inR_0 : inR 0 3 = true := by decide
theorem inR_1 : inR 1 3 = true := by decide
theorem inR_2 : inR 2 3 = true := by decide
theorem inR_3 : inR 3 3 = true := by decide
attribute [go_sem] inR_0 inR_1 inR_2 inR_3
@[go_sem] theorem s_there (i : Nat) (p a b c d na nb nc nd : Bool) (w0 w1 w2 w3 : List TWord) (r : List V) (l x : Int) : pureOf (Lv ctx (i + 2)) 158 [.ip p (.isl a na 3 (w0.map eW) :: .isl b nb 3 (w1.map eW) :: .isl c nc 3 (w2.map eW) :: .isl d nd 3 (w3.map eW) :: r) 0, iV l, iV x] = some (bV (wThere ⟨w0, w1, w2, w3⟩ l x)) := by
  rcases lab_cases l with rfl | rfl | rfl | rfl | h <;> refine sp_of rfl 0 (by rfl) ?_ <;> delta c158
  case inr.inr.inr.inr => simp (config := { contextual := true, dsimp := false, implicitDefEqProofs := false, maxSteps := 5000000 }) only [wThere, h, go_sem, Nat.reduceEqDiff, Nat.reduceAdd, Nat.reduceLeDiff, Nat.reduceMul, Nat.reduceLT, Nat.reduceBEq, Int.reduceLT, Int.reduceLE, Int.reduceToNat, Int.reduceAdd, Int.reduceSub, Int.reduceEq, Int.reduceNeg, ↓reduceIte]
  all_goals simp (config := { contextual := true, dsimp := false, implicitDefEqProofs := false, maxSteps := 5000000 }) only [wThere, A4.get, go_sem, Nat.reduceEqDiff, Nat.reduceAdd, Nat.reduceLeDiff, Nat.reduceMul, Nat.reduceLT, Nat.reduceBEq, Int.reduceLT, Int.reduceLE, Int.reduceToNat, Int.reduceAdd, Int.reduceSub, Int.reduceEq, Int.reduceNeg, ↓reduceIte]
theorem bool_5f {a b c d e : Bool} (h : (a && b && !c && d && e) = false) : (!a || !b || c || !d || !e) = true := by cases a <;> cases b <;> cases c <;> cases d <;> cases e <;> simp_all
theorem bool_5t {a b c d e : Bool} (h : (a && b && !c && d && e) = true) : (!a || !b || c || !d || !e) = false := by cases a <;> cases b <;> cases c <;> cases d <;> cases e <;> simp_all
/-! words -/
@[go_sem] theorem s_oddWord (i : Nat) (a b c : Int) : pureOf (Lv ctx (i + 4)) 129 [.agg [iV a, iV b, iV c]] = some (bV (!wordMay ⟨a, b, c⟩)) := by
  refine sp_of rfl 0 (by rfl) ?_
  delta c129
  simp (config := { contextual := true, dsimp := false, implicitDefEqProofs := false, maxSteps := 5000000 }) only [go_sem, Nat.reduceEqDiff, Nat.reduceAdd, Nat.reduceLeDiff, Nat.reduceMul, Nat.reduceLT, Nat.reduceBEq, Int.reduceLT, Int.reduceLE, Int.reduceToNat, Int.reduceAdd, Int.reduceSub, Int.reduceEq, Int.reduceNeg, ↓reduceIte]
theorem any_not {α : Type} (p : α → Bool) : ∀ l : List α, (l.any fun x => !p x) = !(l.all p)
  | [] => rfl
  | a :: l => by simp [any_not p l]
theorem s_oddWords (i : Nat) (pf nn : Bool) (xs : List TWord) (hx : xs.length ≤ BB) : pureOf (Lv ctx (i + 4 + 2)) 130 [.isl pf nn 3 (xs.map eW), .fn (.func 129) [] []] = some (bV (!(xs.all wordMay))) := by
  rw [s_cfWord (i + 4) pf nn xs (fun w => !wordMay w) 129 [] (fun _ _ _ _ _ _ => rfl) (fun _ => rfl) (by simp [scrubs]) rfl (fun a _ => by simp only [eW]; exact s_oddWord i _ _ _) hx, any_not]
theorem decide_gt4 (n : Nat) : decide (4 < (n : Int)) = !decide (n ≤ 4) := by
  by_cases h : n ≤ 4 <;> simp [h] <;> omega
theorem s_rows (i : Nat) (pf nn : Bool) (xs : List TWord) (hx : decide (4 < (xs.length : Int)) = false) : pureOf (Lv ctx (i + 4 + 2)) 130 [.isl pf nn 3 (xs.map eW), .fn (.func 129) [] []] = some (bV (!(rowMay xs))) := by
  simp at hx
  rw [s_oddWords i pf nn xs (by simp [BB]; omega)]
  simp [rowMay, show xs.length ≤ 4 by omega]
@[go_sem] theorem s_arenaMay (i : Nat) (a b c d na nb nc nd : Bool) (w0 w1 w2 w3 : List TWord) : pureOf (Lv ctx (i + 4 + 3)) 104 [.agg [.isl a na 3 (w0.map eW), .isl b nb 3 (w1.map eW), .isl c nc 3 (w2.map eW), .isl d nd 3 (w3.map eW)]] = some (bV (arenaMay ⟨w0, w1, w2, w3⟩)) := by
  have key : ∀ (w : List TWord), decide (4 < (w.length : Int)) = true → rowMay w = false := by
    intro w h; simp at h; simp [rowMay]; intro; omega
  refine sp_of rfl 5 (by rfl) ?_
  delta c104
  simp (config := { contextual := true, dsimp := false, implicitDefEqProofs := false, maxSteps := 5000000 }) only [gLs, ↓un_c (c104_1.eq_1), s_rows, go_sem, Nat.reduceEqDiff, Nat.reduceAdd, Nat.reduceLeDiff, Nat.reduceMul, Nat.reduceLT, Nat.reduceBEq, Int.reduceLT, Int.reduceLE, Int.reduceToNat, Int.reduceAdd, Int.reduceSub, Int.reduceEq, Int.reduceNeg, ↓reduceIte]
  simp only [arenaMay, A4.all]
  cases h0 : decide (4 < (w0.length : Int)) <;> cases h1 : decide (4 < (w1.length : Int)) <;> cases h2 : decide (4 < (w2.length : Int)) <;> cases h3 : decide (4 < (w3.length : Int)) <;> simp_all

/-! clocks, registers -/
def all4 (m a b c d : Int) : Bool := inR a m && inR b m && inR c m && inR d m
@[go_sem] theorem s_clockMay (i : Nat) (p : Bool) (z0 z1 z2 z3 : V) (a b c d e : Int) (r : List V) : pureOf (Lv ctx (i + 3)) 105 [.ip p (z0 :: z1 :: z2 :: z3 :: iV a :: iV b :: iV c :: iV d :: r) 4, iV e] = some (bV (all4 65535 a b c d && inR e 65535)) := by
  refine sp_of rfl 5 (by rfl) ?_
  delta c105
  simp (config := { contextual := true, dsimp := false, implicitDefEqProofs := false, maxSteps := 5000000 }) only [gLs, ↓un_c (c105_1.eq_1), all4, go_sem, Nat.reduceEqDiff, Nat.reduceAdd, Nat.reduceLeDiff, Nat.reduceMul, Nat.reduceLT, Nat.reduceBEq, Int.reduceLT, Int.reduceLE, Int.reduceToNat, Int.reduceAdd, Int.reduceSub, Int.reduceEq, Int.reduceNeg, ↓reduceIte]
  cases inR a 65535 <;> cases inR b 65535 <;> cases inR c 65535 <;> cases inR d 65535 <;> simp_all
@[go_sem] theorem s_clockMay' (i : Nat) (p : Bool) (a b c d e : Int) : pureOf (Lv ctx (i + 3)) 105 [.ip p [iV a, iV b, iV c, iV d] 0, iV e] = some (bV (all4 65535 a b c d && inR e 65535)) := by
  refine sp_of rfl 5 (by rfl) ?_
  delta c105
  simp (config := { contextual := true, dsimp := false, implicitDefEqProofs := false, maxSteps := 5000000 }) only [gLs, ↓un_c (c105_1.eq_1), all4, go_sem, Nat.reduceEqDiff, Nat.reduceAdd, Nat.reduceLeDiff, Nat.reduceMul, Nat.reduceLT, Nat.reduceBEq, Int.reduceLT, Int.reduceLE, Int.reduceToNat, Int.reduceAdd, Int.reduceSub, Int.reduceEq, Int.reduceNeg, ↓reduceIte]
  cases inR a 65535 <;> cases inR b 65535 <;> cases inR c 65535 <;> cases inR d 65535 <;> simp_all
@[go_sem] theorem s_regsMay (i : Nat) (p : Bool) (z0 z1 z2 z3 z4 z5 : V) (a b c d : Int) (r : List V) : pureOf (Lv ctx (i + 3)) 143 [.ip p (z0 :: z1 :: z2 :: z3 :: z4 :: z5 :: iV a :: iV b :: iV c :: iV d :: r) 6] = some (bV (all4 255 a b c d)) := by
  refine sp_of rfl 5 (by rfl) ?_
  delta c143
  simp (config := { contextual := true, dsimp := false, implicitDefEqProofs := false, maxSteps := 5000000 }) only [gLs, ↓un_c (c143_1.eq_1), all4, go_sem, Nat.reduceEqDiff, Nat.reduceAdd, Nat.reduceLeDiff, Nat.reduceMul, Nat.reduceLT, Nat.reduceBEq, Int.reduceLT, Int.reduceLE, Int.reduceToNat, Int.reduceAdd, Int.reduceSub, Int.reduceEq, Int.reduceNeg, ↓reduceIte]
  cases inR a 255 <;> cases inR b 255 <;> cases inR c 255 <;> cases inR d 255 <;> simp_all
@[go_sem] theorem s_regsMay' (i : Nat) (p : Bool) (a b c d : Int) : pureOf (Lv ctx (i + 3)) 143 [.ip p [iV a, iV b, iV c, iV d] 0] = some (bV (all4 255 a b c d)) := by
  refine sp_of rfl 5 (by rfl) ?_
  delta c143
  simp (config := { contextual := true, dsimp := false, implicitDefEqProofs := false, maxSteps := 5000000 }) only [gLs, ↓un_c (c143_1.eq_1), all4, go_sem, Nat.reduceEqDiff, Nat.reduceAdd, Nat.reduceLeDiff, Nat.reduceMul, Nat.reduceLT, Nat.reduceBEq, Int.reduceLT, Int.reduceLE, Int.reduceToNat, Int.reduceAdd, Int.reduceSub, Int.reduceEq, Int.reduceNeg, ↓reduceIte]
  cases inR a 255 <;> cases inR b 255 <;> cases inR c 255 <;> cases inR d 255 <;> simp_all
def max2 (a b : Int) : Int := if a < b then b else a
theorem max2_eq (a b : Int) : (if a < b then b else a) = max2 a b := (rfl)
@[go_sem] theorem s_max (i : Nat) (p nn : Bool) (a b c d : Int) : pureOf (Lv ctx (i + 1)) 106 [.isl p nn 1 [iV a, iV b, iV c, iV d]] = some (iV (max2 (max2 (max2 a b) c) d)) := by
  refine sp_of rfl 5 (by rfl) ?_
  delta c106
  simp (config := { contextual := true, dsimp := false, implicitDefEqProofs := false, maxSteps := 5000000 }) only [gLs, ↓un_c (c106_1.eq_1), max2_eq, go_sem, Nat.reduceEqDiff, Nat.reduceAdd, Nat.reduceLeDiff, Nat.reduceMul, Nat.reduceLT, Nat.reduceBEq, Int.reduceLT, Int.reduceLE, Int.reduceToNat, Int.reduceAdd, Int.reduceSub, Int.reduceEq, Int.reduceNeg, ↓reduceIte]
/-! programs -/
def boolP (b : Bool) (X1 X2 : Prop) : Prop :=
  match b with
  | true => X1
  | false => X2
theorem boolP_t (X1 X2 : Prop) : boolP true X1 X2 = X1 := (rfl)
theorem boolP_f (X1 X2 : Prop) : boolP false X1 X2 = X2 := (rfl)
theorem l_prog (i k : Nat) (pf nn : Bool) (xs : List TInst) (hx : xs.length ≤ BB) (q : Out → St → Option Ans) (Q : V → Hp → Nat → Prop) (u : Dum (fun s q => evC ctx (Lv ctx (i + 3)) (pureOf (Lv ctx (i + 3))) k c152_1 s (restK [0, 5, 6, 7] q))) (w : Dum q) (X1 X2 : Prop)
    (hq1 : ∀ h n, Fin (q (.exit 0) ⟨ofLive [0] [.isl pf nn 4 (xs.map eI)], h, n⟩) Q = X1) (hq2 : ∀ h n, Fin (q .ret ⟨ofLive [2] [bV false], h, n⟩) Q = X2) : ∀ (suf pre : List TInst) (kk : Nat) (h : Hp) (n : Nat), xs = pre ++ suf → suf.length < kk →
    GL 0 [0, 5, 6, 7] (fun s q => evC ctx (Lv ctx (i + 3)) (pureOf (Lv ctx (i + 3))) k c152_1 s (restK [0, 5, 6, 7] q)) q kk ⟨ofLive [0, 5, 6, 7] [.isl pf nn 4 (xs.map eI), .isl pf nn 4 (xs.map eI), iV xs.length, iV pre.length], h, n⟩ Q u w =
    boolP (progGo xs.length pre.length suf) X1 X2
  | [], pre, kk, h, n, hxs, hk => by
    obtain ⟨kk, rfl⟩ : ∃ m, kk = m + 1 := ⟨kk - 1, by simp at hk; omega⟩
    have h1 : decide ((pre.length : Int) < xs.length) = false := by simp [hxs]
    simp (config := { contextual := true, dsimp := false, implicitDefEqProofs := false, maxSteps := 5000000 }) only [gLs, ↓un_c (c152_1.eq_1), h1, boolP_t, progGo, hq1, go_sem, Nat.reduceEqDiff, Nat.reduceAdd, Nat.reduceLeDiff, Nat.reduceMul, Nat.reduceLT, Nat.reduceBEq, Int.reduceLT, Int.reduceLE, Int.reduceToNat, Int.reduceAdd, Int.reduceSub, Int.reduceEq, Int.reduceNeg, ↓reduceIte]
  | a :: suf, pre, kk, h, n, hxs, hk => by
    obtain ⟨kk, rfl⟩ : ∃ m, kk = m + 1 := ⟨kk - 1, by simp at hk; omega⟩
    have hl : pre.length < xs.length := by simp [hxs]
    have h2 : ((pre.length : Int) < xs.length) = True := by simpa using hl
    have h3 : (0 ≤ (pre.length : Int)) = True := by simp
    have h4 := wrN pre.length (by omega)
    have hg : xs[pre.length]? = some a := by simp [hxs]
    have ih := fun h n => l_prog i k pf nn xs hx q Q u w X1 X2 hq1 hq2 suf (pre ++ [a]) kk h n (by simp [hxs]) (by simpa using hk)
    rw [append_len1] at ih
    have h5 : ((pre.length + 1 : Nat) : Int) = (pre.length : Int) + 1 := by simp
    cases hb : (instMay a && !(decide (a.code = 4) && (decide (a.b ≤ (pre.length : Int)) || decide ((xs.length : Int) < a.b))))
    · have hr : progGo xs.length pre.length (a :: suf) = false := by simp only [progGo, hb, Bool.false_and]
      rw [hr]
      have hb' : (!(instMay a) || (decide (a.code = 4) && (decide (a.b ≤ (pre.length : Int)) || decide ((xs.length : Int) < a.b)))) = true := bool_nf hb
      simp (config := { contextual := true, dsimp := false, implicitDefEqProofs := false, maxSteps := 5000000 }) only [gLs, ↓un_c (c152_1.eq_1), h2, h3, h4, hg, hb', boolP_f, hq2, go_sem, Nat.reduceEqDiff, Nat.reduceAdd, Nat.reduceLeDiff, Nat.reduceMul, Nat.reduceLT, Nat.reduceBEq, Int.reduceLT, Int.reduceLE, Int.reduceToNat, Int.reduceAdd, Int.reduceSub, Int.reduceEq, Int.reduceNeg, ↓reduceIte]
    · have hr : progGo xs.length pre.length (a :: suf) = progGo xs.length ((pre.length + 1 : Nat) : Int) suf := by simp only [progGo, hb, Bool.true_and, h5]
      rw [hr]
      have hb' : (!(instMay a) || (decide (a.code = 4) && (decide (a.b ≤ (pre.length : Int)) || decide ((xs.length : Int) < a.b)))) = false := bool_nt hb
      simp (config := { contextual := true, dsimp := false, implicitDefEqProofs := false, maxSteps := 5000000 }) only [gLs, ↓un_c (c152_1.eq_1), h2, h3, h4, hg, hb', ih, go_sem, Nat.reduceEqDiff, Nat.reduceAdd, Nat.reduceLeDiff, Nat.reduceMul, Nat.reduceLT, Nat.reduceBEq, Int.reduceLT, Int.reduceLE, Int.reduceToNat, Int.reduceAdd, Int.reduceSub, Int.reduceEq, Int.reduceNeg, ↓reduceIte]
theorem s_prog (i : Nat) (pf nn : Bool) (xs : List TInst) (hx : xs.length ≤ BB) : pureOf (Lv ctx (i + 4)) 152 [.isl pf nn 4 (xs.map eI)] = some (bV (progMay xs)) := by
  refine sp_of rfl (xs.length + 1) (by rfl) ?_
  delta c152
  have h2 := fun q Q u w h1 h2 => l_prog i (xs.length + 1) pf nn xs hx q Q u w (Fin (q (.exit 0) ⟨ofLive [0] [.isl pf nn 4 (xs.map eI)], emptyHp, 0⟩) Q) (Fin (q .ret ⟨ofLive [2] [bV false], emptyHp, 0⟩) Q) h1 h2 xs [] (xs.length + 1) emptyHp 0 rfl (by omega)
  simp only [List.length_nil, Int.natCast_zero] at h2
  have h5 : decide ((xs.length : Int) ≤ 16) = decide (xs.length ≤ 16) := by apply decide_eq_decide.mpr; omega
  simp (config := { contextual := true, dsimp := false, implicitDefEqProofs := false, maxSteps := 5000000 }) only [progMay, h5, go_sem, Nat.reduceEqDiff, Nat.reduceAdd, Nat.reduceLeDiff, Nat.reduceMul, Nat.reduceLT, Nat.reduceBEq, Int.reduceLT, Int.reduceLE, Int.reduceToNat, Int.reduceAdd, Int.reduceSub, Int.reduceEq, Int.reduceNeg, ↓reduceIte]
  refine Eq.mpr (h2 _ _ _ _ (fun h n => by simp (config := { contextual := true, dsimp := false, implicitDefEqProofs := false, maxSteps := 5000000 }) only [go_sem, Nat.reduceEqDiff, Nat.reduceAdd, Nat.reduceLeDiff, Nat.reduceMul, Nat.reduceLT, Nat.reduceBEq, Int.reduceLT, Int.reduceLE, Int.reduceToNat, Int.reduceAdd, Int.reduceSub, Int.reduceEq, Int.reduceNeg, ↓reduceIte]) (fun h n => by simp (config := { contextual := true, dsimp := false, implicitDefEqProofs := false, maxSteps := 5000000 }) only [go_sem, Nat.reduceEqDiff, Nat.reduceAdd, Nat.reduceLeDiff, Nat.reduceMul, Nat.reduceLT, Nat.reduceBEq, Int.reduceLT, Int.reduceLE, Int.reduceToNat, Int.reduceAdd, Int.reduceSub, Int.reduceEq, Int.reduceNeg, ↓reduceIte])) ?_
  cases hb : progGo xs.length 0 xs <;> simp (config := { contextual := true, dsimp := false, implicitDefEqProofs := false, maxSteps := 5000000 }) only [boolP_t, boolP_f, h5, go_sem, Nat.reduceEqDiff, Nat.reduceAdd, Nat.reduceLeDiff, Nat.reduceMul, Nat.reduceLT, Nat.reduceBEq, Int.reduceLT, Int.reduceLE, Int.reduceToNat, Int.reduceAdd, Int.reduceSub, Int.reduceEq, Int.reduceNeg, ↓reduceIte]
end Ve
