/- Undoing: the reference's, on. -/
import Derived.Test.YtapgmjgledahiaaGreatS17
set_option linter.all false
set_option linter.unusedSectionVars false
namespace Ve
open Go Ve.Ab
set_option maxHeartbeats 16000000
set_option maxRecDepth 10000
theorem r_again (i : Nat) (pf : Bool) (m : TMach) (hm : SmM m) (at_ kind : Int) : pureOf (Lv ctx (i + 9)) 47 [eM pf m, iV at_, iV kind] = some (.tup [oM (againM m at_ kind).1, iV (againM m at_ kind).2]) := by
  have ht := r_here (i + 0) pf m at_ hm
  simp only [Nat.add_assoc, Nat.reduceAdd] at ht
  have h2 : ∀ a b c : Bool, (!a || !b && !c) = !(a && (b || c)) := by decide
  have h3 := h2 (hereM m at_) (decide (kind = 3)) (decide (kind = 5))
  cases h1 : (hereM m at_ && (decide (kind = 3) || decide (kind = 5))) <;> rw [h1] at h3
  · refine sp_of rfl 0 (by rfl) ?_
    delta c47
    simp +contextual -dsimp -implicitDefEqProofs (maxSteps := 5000000) only [ht, h3, go_sem, simprocAttr]
    simp only [againM, h1]
    rfl
  · have hh : hereM m at_ = true := by simp only [Bool.and_eq_true] at h1; exact h1.1
    obtain ⟨s, k, rfl, hs, hk⟩ := here_get hh
    have hm1 : againM m k kind = (tellM (setS (freeM (IntKind.wrap .i64 (s.id + 1)) m) k (againS s)) ⟨s.id, s.label, kind, minT s.tries⟩, 0) := by
      simp only [againM, h1, if_true, Int.toNat_natCast, hs]
    have hl := r_loose (i + 5) pf m hm k s hs
    have htl := r_tell (i + 7) (setS (freeM (IntKind.wrap .i64 (s.id + 1)) m) k (againS s)) k (againS s) (by simp [setS, freeM, hk]) kind (minT s.tries)
    have e1 : (0 ≤ (k : Int)) = True := by simp
    have e2 : ((k : Int) < (m.sess.length : Int)) = True := by simpa using hk
    have e4 : ∀ x y, ((m.sess.map oS).set k x).set k y = (m.sess.map oS).set k y := fun x y => List.set_set ..
    have e5 : ∀ x, ((m.sess.map oS).set k x)[k]? = some x := fun x => List.getElem?_set_self (by simpa using hk)
    simp only [Nat.add_assoc, Nat.reduceAdd, oM, cO, oWs, oSs, oEs, setS, freeM, List.map_set, dropS, oS] at hl
    simp only [Nat.add_assoc, Nat.reduceAdd, oM, cO, oWs, oSs, oEs, setS, freeM, List.map_set, againS, dropS, oS, minT] at htl
    rw [hm1]
    refine sp_of rfl 0 (by rfl) ?_
    delta c47
    simp +contextual -dsimp -implicitDefEqProofs (maxSteps := 5000000) only [ht, h3, hl, htl, hs, e1, e2, e4, e5, List.length_set, go_sem, simprocAttr]
    simp only [oM, cO, oWs, oSs, oEs, setS, freeM, List.map_set, againS, dropS, oS, minT]
theorem r_end (i : Nat) (pf : Bool) (m : TMach) (hm : SmM m) (at_ result told : Int) : pureOf (Lv ctx (i + 9)) 98 [eM pf m, iV at_, iV result, iV told] = some (.tup [oM (endM m at_ result told).1, iV (endM m at_ result told).2]) := by
  have ht := r_here (i + 0) pf m at_ hm
  simp only [Nat.add_assoc, Nat.reduceAdd] at ht
  have hf : ∀ a b : Int, (decide (0 ≤ a) && decide (a ≤ b)) = inR a b := fun _ _ => (rfl)
  have h2 : ∀ a b c : Bool, (!a || !b || !c) = !(a && b && c) := by decide
  have h3 := h2 (hereM m at_) (inR result 5) (inR told 255)
  cases h1 : (hereM m at_ && inR result 5 && inR told 255) <;> rw [h1] at h3
  · refine sp_of rfl 0 (by rfl) ?_
    delta c98
    simp +contextual -dsimp -implicitDefEqProofs (maxSteps := 5000000) only [ht, h3, hf, go_sem, simprocAttr]
    simp only [endM, h1]
    rfl
  · have hh : hereM m at_ = true := by simp only [Bool.and_eq_true] at h1; exact h1.1.1
    obtain ⟨s, k, rfl, hs, hk⟩ := here_get hh
    have hm1 : endM m k result told = (tellM (setS (freeM (IntKind.wrap .i64 (s.id + 1)) m) k (endS s result told)) ⟨s.id, s.label, 6, result⟩, 0) := by
      simp only [endM, h1, if_true, Int.toNat_natCast, hs]
    have hl := r_loose (i + 5) pf m hm k s hs
    have htl := r_tell (i + 7) (setS (freeM (IntKind.wrap .i64 (s.id + 1)) m) k (endS s result told)) k (endS s result told) (by simp [setS, freeM, hk]) 6 result
    have e1 : (0 ≤ (k : Int)) = True := by simp
    have e2 : ((k : Int) < (m.sess.length : Int)) = True := by simpa using hk
    have e4 : ∀ x y, ((m.sess.map oS).set k x).set k y = (m.sess.map oS).set k y := fun x y => List.set_set ..
    have e5 : ∀ x, ((m.sess.map oS).set k x)[k]? = some x := fun x => List.getElem?_set_self (by simpa using hk)
    simp only [Nat.add_assoc, Nat.reduceAdd, oM, cO, oWs, oSs, oEs, setS, freeM, List.map_set, dropS, oS] at hl
    simp only [Nat.add_assoc, Nat.reduceAdd, oM, cO, oWs, oSs, oEs, setS, freeM, List.map_set, endS, dropS, oS] at htl
    rw [hm1]
    refine sp_of rfl 0 (by rfl) ?_
    delta c98
    simp +contextual -dsimp -implicitDefEqProofs (maxSteps := 5000000) only [ht, h3, hf, hl, htl, hs, e1, e2, e4, e5, List.length_set, go_sem, simprocAttr]
    simp only [oM, cO, oWs, oSs, oEs, setS, freeM, List.map_set, endS, dropS, oS]
end Ve
