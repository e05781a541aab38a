/- The program's reads, with one more. -/
import Derived.Test.YtapgmjgledahiaaGreatS5
import Derived.Test.YtapgmjgledahiaaGreatS23
set_option linter.all false
set_option linter.unusedSectionVars false
namespace Ve
open Go Ve.Ab
set_option maxHeartbeats 16000000
set_option maxRecDepth 10000
theorem s_withR (i : Nat) (pf nn : Bool) (xs : List TRead) (hx : (xs.length : Int) * 24 ≤ 140737488355328) (a b c : Int) : pureOf (Lv ctx (i + 5)) 65 [.isl pf nn 3 (xs.map eR), .agg [iV a, iV b, iV c]] = some (.tup [oRs (withRead xs ⟨a, b, c⟩).1, iV (withRead xs ⟨a, b, c⟩).2]) := by
  have hb : xs.length ≤ BB := by simp only [BB]; omega
  have q1 := s_reads (i + 0) pf nn xs hb
  have q2 := s_reads (i + 0) false false [⟨a, b, c⟩] (by simp [BB])
  rw [reads_one] at q2
  simp only [Nat.add_assoc, Nat.reduceAdd, List.map_cons, List.map_nil, eR] at q1 q2
  have b1 : ((xs.length : Int) * 24 ≤ 140737488355328) = True := by simpa using hx
  cases h1 : readsMay xs
  · have e : withRead xs ⟨a, b, c⟩ = ([], 900) := by simp only [withRead, h1]; rfl
    rw [e]
    rw [h1] at q1
    refine sp_of rfl 0 (by rfl) ?_
    delta c65
    simp +contextual -dsimp -implicitDefEqProofs (maxSteps := 5000000) only [q1, List.map_nil, go_sem, simprocAttr]
    try rfl
  · rw [h1] at q1
    cases h2 : read1 ⟨a, b, c⟩
    · have e : withRead xs ⟨a, b, c⟩ = ([], 900) := by simp only [withRead, h1, h2]; rfl
      rw [e]
      rw [h2] at q2
      refine sp_of rfl 0 (by rfl) ?_
      delta c65
      simp +contextual -dsimp -implicitDefEqProofs (maxSteps := 5000000) only [q1, q2, List.replicate, List.map_nil, go_sem, simprocAttr]
      try rfl
    · rw [h2] at q2
      have e : withRead xs ⟨a, b, c⟩ = if xs.any (sameR ⟨a, b, c⟩) = true then (xs, 0) else if xs.length = 16 then ([], 900) else (xs ++ [⟨a, b, c⟩], 0) := by simp only [withRead, h1, h2, Bool.and_self, if_true]
      have h16 : xs.length ≤ 16 := by simp only [readsMay, Bool.and_eq_true, decide_eq_true_eq] at h1; exact h1.2
      have hcf : pureOf (Lv ctx (i + 4)) 111 [.isl pf nn 3 (xs.map eR), .fn (.func 139) [] [.ip true [iV a, iV b, iV c] 0]] = some (bV (xs.any (sameR ⟨a, b, c⟩))) :=
        s_cfRead (i + 2) pf nn xs (sameR ⟨a, b, c⟩) 139 [.ip true [iV a, iV b, iV c] 0] (fun _ _ _ _ _ _ => rfl) (fun _ => rfl) (by simp [scrubs, V.scrub]) rfl (fun x _ => by simp only [eR]; exact s_of1 (i + 1) true a b c x.level x.index x.ver) hb
      rw [e]
      cases h3 : xs.any (sameR ⟨a, b, c⟩)
      · rw [h3] at hcf
        simp only [Bool.false_eq_true, if_false]
        by_cases h4 : xs.length = 16
        · have z : decide ((xs.length : Int) = 16) = true := by simp; omega
          simp only [h4, if_true]
          refine sp_of rfl 0 (by rfl) ?_
          delta c65
          cases pf
          all_goals
            simp +contextual -dsimp -implicitDefEqProofs (maxSteps := 5000000) only [q1, q2, b1, hcf, z, List.replicate, List.map_nil, go_sem, simprocAttr]
            try rfl
        · have z : decide ((xs.length : Int) = 16) = false := by simp; omega
          have b2 : (((xs.length + 1 : Nat) : Int) * 24 ≤ 140737488355328) = True := by simp; omega
          simp only [h4, if_false, List.map_append, List.map_cons, List.map_nil, eR, oRs]
          refine sp_of rfl 0 (by rfl) ?_
          delta c65
          cases pf <;> simp +contextual -dsimp -implicitDefEqProofs (maxSteps := 5000000) only [q1, q2, b1, b2, hcf, z, List.replicate, go_sem, simprocAttr]
      · rw [h3] at hcf
        simp only [if_true]
        refine sp_of rfl 0 (by rfl) ?_
        delta c65
        cases pf <;> simp +contextual -dsimp -implicitDefEqProofs (maxSteps := 5000000) only [q1, q2, b1, hcf, List.replicate, go_sem, simprocAttr]
end Ve
