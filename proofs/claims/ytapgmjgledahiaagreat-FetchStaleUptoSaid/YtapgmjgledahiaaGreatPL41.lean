/- Laws of the models: where a write stands among writes. -/
import Derived.Test.YtapgmjgledahiaaGreatVeP
set_option linter.all false
set_option linter.unusedSectionVars false
namespace Ve
open Go
/-- how many stand ahead of a place -/
def posW (t : Int) : List TWrite → Nat
  | [] => 0
  | x :: r => if plW x < t then posW t r + 1 else 0
theorem pos_le (t : Int) : ∀ l, posW t l ≤ l.length
  | [] => Nat.le_refl _
  | x :: r => by
    have := pos_le t r
    simp only [posW]
    split <;> simp <;> omega
theorem pos_lt (t : Int) : ∀ (l : List TWrite) (j : Nat) (w : TWrite), j < posW t l → l[j]? = some w → plW w < t
  | [], j, w, h, _ => by simp [posW] at h
  | x :: r, j, w, h, hw => by
    simp only [posW] at h
    split at h
    · rename_i hx
      cases j with
      | zero => simp only [List.getElem?_cons_zero, Option.some.injEq] at hw; subst hw; exact hx
      | succ j => exact pos_lt t r j w (by omega) (by simpa using hw)
    · omega
theorem pos_ge (t : Int) : ∀ (l : List TWrite), l.Pairwise (fun a b => plW a < plW b) → ∀ (j : Nat) (w : TWrite), posW t l ≤ j → l[j]? = some w → t ≤ plW w
  | [], _, j, w, _, hw => by simp at hw
  | x :: r, hp, j, w, h, hw => by
    obtain ⟨h1, h2⟩ := List.pairwise_cons.1 hp
    simp only [posW] at h
    split at h
    · cases j with
      | zero => omega
      | succ j => exact pos_ge t r h2 j w (by omega) (by simpa using hw)
    · rename_i hx
      cases j with
      | zero => simp only [List.getElem?_cons_zero, Option.some.injEq] at hw; subst hw; omega
      | succ j =>
        have := h1 w (List.mem_of_getElem? (by simpa using hw))
        omega
theorem find_gt (lv ix : Int) : ∀ l : List TWrite, (∀ w ∈ l, place lv ix < plW w) → findGoW lv ix l = (0, false)
  | [], _ => rfl
  | x :: r, h => by
    have hx := h x (by simp)
    have hn : ¬ (x.level = lv ∧ x.index = ix) := by
      rintro ⟨rfl, rfl⟩
      simp only [plW] at hx
      omega
    simp only [findGoW, hn, if_false]
    exact find_gt lv ix r (fun w hw => h w (by simp [hw]))
theorem place_eq {w : TWrite} (h : write1 w = true) {lv ix : Int} (h2 : inR ix 3 = true) : plW w = place lv ix ↔ w.level = lv ∧ w.index = ix := by
  simp only [write1, Bool.and_eq_true, inR_le] at h
  rw [inR_le] at h2
  simp only [plW, place]
  constructor
  · intro e; omega
  · rintro ⟨rfl, rfl⟩; rfl
theorem find_pos {lv ix : Int} (h2 : inR ix 3 = true) : ∀ l : List TWrite, (∀ w ∈ l, write1 w = true) → l.Pairwise (fun a b => plW a < plW b) →
    findGoW lv ix l = match l[posW (place lv ix) l]? with
      | some w => if plW w = place lv ix then (w.val, true) else (0, false)
      | none => (0, false)
  | [], _, _ => rfl
  | x :: r, hw, hp => by
    obtain ⟨h3, h4⟩ := List.pairwise_cons.1 hp
    have he := place_eq (hw x (by simp)) (lv := lv) h2
    simp only [posW]
    by_cases hx : plW x < place lv ix
    · have hn : ¬ (x.level = lv ∧ x.index = ix) := by rw [← he]; omega
      simp only [findGoW, hn, if_false, hx, if_true, List.getElem?_cons_succ]
      exact find_pos h2 r (fun w h => hw w (by simp [h])) h4
    · simp only [hx, if_false, List.getElem?_cons_zero]
      by_cases hq : plW x = place lv ix
      · simp only [findGoW, he.1 hq, and_self, if_true, hq]
      · have hn : ¬ (x.level = lv ∧ x.index = ix) := by rw [← he]; exact hq
        simp only [findGoW, hn, if_false, hq]
        exact find_gt lv ix r (fun w h => by have := h3 w h; omega)
theorem ins_pos (w : TWrite) : ∀ l : List TWrite, insW w l = l.take (posW (plW w) l) ++ w :: (match l[posW (plW w) l]? with
      | some x => if plW x = plW w then l.drop (posW (plW w) l + 1) else l.drop (posW (plW w) l)
      | none => [])
  | [] => rfl
  | x :: r => by
    simp only [insW, posW]
    by_cases hx : plW x < plW w
    · have hx' : place x.level x.index < place w.level w.index := hx
      simp only [hx', if_true, List.take_succ_cons, List.getElem?_cons_succ, List.drop_succ_cons, List.cons_append]
      rw [ins_pos w r]
    · have hx' : ¬ place x.level x.index < place w.level w.index := hx
      simp only [hx', if_false, List.take_zero, List.getElem?_cons_zero, List.nil_append, List.drop_zero, Nat.zero_add, List.drop_succ_cons]
      by_cases hq : plW x = plW w
      · have hq' : place x.level x.index = place w.level w.index := hq
        simp only [hq', if_true]
      · have hq' : ¬ place x.level x.index = place w.level w.index := hq
        simp only [hq', if_false]
end Ve
