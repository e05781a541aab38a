/- The reference's sets, on. -/
import Derived.Test.YtapgmjgledahiaaGreatS22
set_option linter.all false
set_option linter.unusedSectionVars false
namespace Ve
open Go Ve.Ab
set_option maxHeartbeats 16000000
set_option maxRecDepth 10000
def hitW (l x : Int) (w : TWrite) : Bool := decide (w.level = l) && decide (w.index = x)
theorem findGo_at (l x : Int) : ∀ (ws : List TWrite) (j : Nat) (w : TWrite), ws[j]? = some w → hitW l x w = true → (∀ i, i < j → hitW l x (ws.getD i ⟨0, 0, 0⟩) = false) → findGoW l x ws = (w.val, true)
  | [], j, w, h, _, _ => by simp at h
  | a :: r, 0, w, h, hh, _ => by
    simp only [List.getElem?_cons_zero, Option.some.injEq] at h
    subst h
    simp only [hitW, Bool.and_eq_true, decide_eq_true_eq] at hh
    simp only [findGoW]; exact if_pos hh
  | a :: r, j + 1, w, h, hh, hg => by
    have h0 := hg 0 (by omega)
    simp only [List.getD_cons_zero, hitW, Bool.and_eq_false_iff, decide_eq_false_iff_not] at h0
    simp only [findGoW]
    rw [if_neg (by rintro ⟨h1, h2⟩; rcases h0 with h0 | h0; exact h0 h1; exact h0 h2)]
    exact findGo_at l x r j w (by simpa using h) hh (fun i hi => by have := hg (i + 1) (by omega); simpa using this)
theorem findGo_no (l x : Int) : ∀ (ws : List TWrite), (∀ i, i < ws.length → hitW l x (ws.getD i ⟨0, 0, 0⟩) = false) → findGoW l x ws = (0, false)
  | [], _ => rfl
  | a :: r, hg => by
    have h0 := hg 0 (by simp)
    simp only [List.getD_cons_zero, hitW, Bool.and_eq_false_iff, decide_eq_false_iff_not] at h0
    simp only [findGoW]
    rw [if_neg (by rintro ⟨h1, h2⟩; rcases h0 with h0 | h0; exact h0 h1; exact h0 h2)]
    exact findGo_no l x r (fun i hi => by have := hg (i + 1) (by simp; omega); simpa using this)
theorem r_find (i : Nat) (pf nn : Bool) (xs : List TWrite) (hx : xs.length ≤ BB) (l x : Int) : pureOf (Lv ctx (i + 5)) 67 [.isl pf nn 3 (xs.map eWr), iV l, iV x] = some (.tup [iV (findWrite xs l x).1, bV (findWrite xs l x).2]) := by
  have q1 := r_writes (i + 0) pf nn xs hx
  simp only [Nat.add_assoc, Nat.reduceAdd] at q1
  cases hm : writesMay xs
  · have e : findWrite xs l x = (0, false) := by simp only [findWrite, hm]; rfl
    rw [e]
    rw [hm] at q1
    refine sp_of rfl (xs.length + 1) (by rfl) ?_
    delta c67
    simp +contextual -dsimp -implicitDefEqProofs (maxSteps := 5000000) only [q1, gLs, Bool.and_false, ↓un_c (c67_1.eq_1), go_sem, simprocAttr]
  · have e : findWrite xs l x = findGoW l x xs := by simp only [findWrite, hm, if_true]
    rw [e]
    rw [hm] at q1
    refine sp_of rfl (xs.length + 1) (by rfl) ?_
    delta c67
    simp +contextual -dsimp -implicitDefEqProofs (maxSteps := 5000000) only [q1, go_sem, simprocAttr]
    refine gl_all (S := fun j => ⟨ofLive [0, 1, 2, 8] [.isl pf nn 3 (xs.map eWr), iV l, iV x, iV j], emptyHp, 0⟩) xs.length (fun j => !hitW l x (xs.getD j ⟨0, 0, 0⟩)) rfl (by omega) ?_ ?_ ?_
    · intro j kk hj hgd hl
      have hxj : xs[j]? = some (xs.getD j ⟨0, 0, 0⟩) := by simp [List.getD_eq_getElem?_getD, hj]
      generalize xs.getD j ⟨0, 0, 0⟩ = a at hxj hgd
      have l1 : ((j : Int) < (xs.length : Int)) = True := by simpa using hj
      have l2 : (0 ≤ (j : Int)) = True := by simp
      have l3 := wrN j (by omega)
      have f0 : hitW l x a = false := by simpa using hgd
      have f1 : (decide (a.level = l) && decide (a.index = x)) = false := f0
      simp +contextual -dsimp -implicitDefEqProofs (maxSteps := 5000000) only [q1, l1, l2, l3, hxj, f1, ↓un_c (c67_1.eq_1), go_sem, simprocAttr]
      exact hl
    · intro j kk hj hgd hbef
      have hxj : xs[j]? = some (xs.getD j ⟨0, 0, 0⟩) := by simp [List.getD_eq_getElem?_getD, hj]
      have hf : hitW l x (xs.getD j ⟨0, 0, 0⟩) = true := by simpa using hgd
      have hfin := findGo_at l x xs j _ hxj hf (fun i hi => by simpa using hbef i hi)
      generalize xs.getD j ⟨0, 0, 0⟩ = a at hxj hgd hf hfin
      have l1 : ((j : Int) < (xs.length : Int)) = True := by simpa using hj
      have l2 : (0 ≤ (j : Int)) = True := by simp
      have f1 : (decide (a.level = l) && decide (a.index = x)) = true := hf
      simp +contextual -dsimp -implicitDefEqProofs (maxSteps := 5000000) only [q1, l1, l2, hxj, f1, hfin, ↓un_c (c67_1.eq_1), go_sem, simprocAttr]
    · intro kk hall
      have l0 : decide ((xs.length : Int) < (xs.length : Int)) = false := by simp
      have hfin := findGo_no l x xs (fun i hi => by simpa using hall i hi)
      simp +contextual -dsimp -implicitDefEqProofs (maxSteps := 5000000) only [q1, l0, hfin, Bool.false_and, ↓un_c (c67_1.eq_1), go_sem, simprocAttr]
theorem r_writesAt (i : Nat) (pf nn : Bool) (xs : List TWrite) (hx : xs.length ≤ BB) (l : Int) : pureOf (Lv ctx (i + 5)) 99 [.isl pf nn 3 (xs.map eWr), iV l] = some (bV (writesAt xs l)) := by
  have q1 := r_writes (i + 0) pf nn xs hx
  simp only [Nat.add_assoc, Nat.reduceAdd] at q1
  refine sp_of rfl (xs.length + 1) (by rfl) ?_
  delta c99
  simp +contextual -dsimp -implicitDefEqProofs (maxSteps := 5000000) only [go_sem, simprocAttr]
  refine gl_all (S := fun j => ⟨ofLive [0, 1, 5] [.isl pf nn 3 (xs.map eWr), iV l, iV j], emptyHp, 0⟩) xs.length (fun j => decide ((xs.getD j ⟨0, 0, 0⟩).level = l)) rfl (by omega) ?_ ?_ ?_
  · intro j kk hj hgd hl
    have hxj : xs[j]? = some (xs.getD j ⟨0, 0, 0⟩) := by simp [List.getD_eq_getElem?_getD, hj]
    generalize xs.getD j ⟨0, 0, 0⟩ = a at hxj hgd
    have l1 : ((j : Int) < (xs.length : Int)) = True := by simpa using hj
    have l2 : (0 ≤ (j : Int)) = True := by simp
    have l3 := wrN j (by omega)
    simp +contextual -dsimp -implicitDefEqProofs (maxSteps := 5000000) only [l1, l2, l3, hxj, hgd, ↓un_c (c99_1.eq_1), go_sem, simprocAttr]
    exact hl
  · intro j kk hj hgd _
    have hxj : xs[j]? = some (xs.getD j ⟨0, 0, 0⟩) := by simp [List.getD_eq_getElem?_getD, hj]
    generalize xs.getD j ⟨0, 0, 0⟩ = a at hxj hgd
    have l1 : ((j : Int) < (xs.length : Int)) = True := by simpa using hj
    have l2 : (0 ≤ (j : Int)) = True := by simp
    have hf : writesAt xs l = false := by simp only [writesAt, all_false (fun w => decide (w.level = l)) hxj hgd, Bool.and_false]
    simp +contextual -dsimp -implicitDefEqProofs (maxSteps := 5000000) only [l1, l2, hxj, hgd, hf, ↓un_c (c99_1.eq_1), go_sem, simprocAttr]
  · intro kk hall
    have l0 : decide ((xs.length : Int) < (xs.length : Int)) = false := by simp
    have hf : writesAt xs l = writesMay xs := by simp only [writesAt, all_range (fun w : TWrite => decide (w.level = l)) ⟨0, 0, 0⟩ _ hall, Bool.and_true]
    simp +contextual -dsimp -implicitDefEqProofs (maxSteps := 5000000) only [l0, q1, hf, ↓un_c (c99_1.eq_1), go_sem, simprocAttr]
theorem reads_one (r : TRead) : readsMay [r] = read1 r := by simp [readsMay, readsGo]
theorem writes_one (w : TWrite) : writesMay [w] = write1 w := by simp [writesMay, writesGo]

theorem r_withRead (i : Nat) (pf nn : Bool) (xs : List TRead) (hx : (xs.length : Int) * 24 ≤ 140737488355328) (a b c : Int) : pureOf (Lv ctx (i + 5)) 68 [.isl pf nn 3 (xs.map eR), .agg [iV a, iV b, iV c]] = some (.tup [oRs (withRead xs ⟨a, b, c⟩).1, iV (withRead xs ⟨a, b, c⟩).2]) := by
  have hb : xs.length ≤ BB := by simp only [BB]; omega
  have q1 := r_reads (i + 0) pf nn xs hb
  have q2 := r_reads (i + 0) false false [⟨a, b, c⟩] (by simp [BB])
  rw [reads_one] at q2
  simp only [Nat.add_assoc, Nat.reduceAdd, List.map_cons, List.map_nil, eR] at q1 q2
  have b1 : ((xs.length : Int) * 24 ≤ 140737488355328) = True := by simpa using hx
  cases h1 : readsMay xs
  · have e : withRead xs ⟨a, b, c⟩ = ([], 900) := by simp only [withRead, h1]; rfl
    rw [e]
    rw [h1] at q1
    refine sp_of rfl (xs.length + 1) (by rfl) ?_
    delta c68
    simp +contextual -dsimp -implicitDefEqProofs (maxSteps := 5000000) only [q1, List.map_nil, go_sem, simprocAttr]
    rfl
  · rw [h1] at q1
    cases h2 : read1 ⟨a, b, c⟩
    · have e : withRead xs ⟨a, b, c⟩ = ([], 900) := by simp only [withRead, h1, h2]; rfl
      rw [e]
      rw [h2] at q2
      refine sp_of rfl (xs.length + 1) (by rfl) ?_
      delta c68
      simp +contextual -dsimp -implicitDefEqProofs (maxSteps := 5000000) only [q1, q2, List.replicate, List.map_nil, go_sem, simprocAttr]
      rfl
    · rw [h2] at q2
      have e : withRead xs ⟨a, b, c⟩ = if xs.any (sameR ⟨a, b, c⟩) = true then (xs, 0) else if xs.length = 16 then ([], 900) else (xs ++ [⟨a, b, c⟩], 0) := by simp only [withRead, h1, h2, Bool.and_self, if_true]
      have h16 : xs.length ≤ 16 := by simp only [readsMay, Bool.and_eq_true, decide_eq_true_eq] at h1; exact h1.2
      rw [e]
      refine sp_of rfl (xs.length + 1) (by rfl) ?_
      delta c68
      simp +contextual -dsimp -implicitDefEqProofs (maxSteps := 5000000) only [q1, q2, b1, List.replicate, List.map_nil, go_sem, simprocAttr]
      cases pf
      all_goals
        refine gl_all (S := fun j => ⟨ofLive [0, 3, 6, 7] [.isl _ nn 3 (xs.map eR), .ip true [iV a, iV b, iV c] 0, .sl 2, iV j], pO (pO (pO emptyHp 0 (some ⟨3, [.agg [iV a, iV b, iV c]], false⟩)) 1 none) 2 (some ⟨3, xs.map eR, _⟩), 3⟩) xs.length (fun j => !sameR ⟨a, b, c⟩ (xs.getD j ⟨0, 0, 0⟩)) rfl (by omega) ?_ ?_ ?_
        · intro j kk hj hgd hl
          have hxj : xs[j]? = some (xs.getD j ⟨0, 0, 0⟩) := by simp [List.getD_eq_getElem?_getD, hj]
          generalize xs.getD j ⟨0, 0, 0⟩ = x at hxj hgd
          have l1 : ((j : Int) < (xs.length : Int)) = True := by simpa using hj
          have l2 : (0 ≤ (j : Int)) = True := by simp
          have l3 := wrN j (by omega)
          have f0 : sameR ⟨a, b, c⟩ x = false := by simpa using hgd
          have f1 : (decide (x.level = a) && decide (x.index = b)) = false := f0
          cases c1 : decide (x.level = a)
          · simp +contextual -dsimp -implicitDefEqProofs (maxSteps := 5000000) only [l1, l2, l3, hxj, c1, ↓un_c (c68_1.eq_1), go_sem, simprocAttr]
            exact hl
          · have c2 : decide (x.index = b) = false := by rw [c1, Bool.true_and] at f1; exact f1
            simp +contextual -dsimp -implicitDefEqProofs (maxSteps := 5000000) only [l1, l2, l3, hxj, c1, c2, ↓un_c (c68_1.eq_1), go_sem, simprocAttr]
            exact hl
        · intro j kk hj hgd _
          have hxj : xs[j]? = some (xs.getD j ⟨0, 0, 0⟩) := by simp [List.getD_eq_getElem?_getD, hj]
          generalize xs.getD j ⟨0, 0, 0⟩ = x at hxj hgd
          have l1 : ((j : Int) < (xs.length : Int)) = True := by simpa using hj
          have l2 : (0 ≤ (j : Int)) = True := by simp
          have f0 : sameR ⟨a, b, c⟩ x = true := by simpa using hgd
          have f1 : (decide (x.level = a) && decide (x.index = b)) = true := f0
          have hf : xs.any (sameR ⟨a, b, c⟩) = true := any_true _ hxj f0
          rw [if_pos hf]
          obtain ⟨c1, c2⟩ := (Bool.and_eq_true _ _).mp f1
          simp +contextual -dsimp -implicitDefEqProofs (maxSteps := 5000000) only [l1, l2, hxj, c1, c2, ↓un_c (c68_1.eq_1), go_sem, simprocAttr]
        · intro kk hall
          have l0 : decide ((xs.length : Int) < (xs.length : Int)) = false := by simp
          have hf : xs.any (sameR ⟨a, b, c⟩) = false := any_range _ ⟨0, 0, 0⟩ _ (fun j hj => by simpa using hall j hj)
          have b2 : (((xs.length + 1 : Nat) : Int) * 24 ≤ 140737488355328) = True := by simp; omega
          rw [if_neg (by rw [hf]; decide)]
          by_cases hl : xs.length = 16
          · rw [if_pos hl]
            have l6 : decide ((16 : Int) < ((xs.length + 1 : Nat) : Int)) = true := by simp; omega
            simp +contextual -dsimp -implicitDefEqProofs (maxSteps := 5000000) only [l0, b2, l6, List.replicate, ↓un_c (c68_1.eq_1), go_sem, simprocAttr]
            simp only [oRs, List.map_append, List.map_cons, List.map_nil, eR]
          · rw [if_neg hl]
            have l6 : decide ((16 : Int) < ((xs.length + 1 : Nat) : Int)) = false := by simp; omega
            simp +contextual -dsimp -implicitDefEqProofs (maxSteps := 5000000) only [l0, b2, l6, List.replicate, ↓un_c (c68_1.eq_1), go_sem, simprocAttr]
            simp only [oRs, List.map_append, List.map_cons, List.map_nil, eR]
end Ve
