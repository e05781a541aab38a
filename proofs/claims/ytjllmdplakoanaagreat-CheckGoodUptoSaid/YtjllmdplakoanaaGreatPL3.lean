/- Laws of the models: sets of writes, sets of reads. -/
import Derived.Test.YtjllmdplakoanaaGreatPL2
set_option linter.all false
set_option linter.unusedSectionVars false
namespace Ve
open Go
abbrev plW (w : TWrite) : Int := place w.level w.index
theorem writes_go : ∀ (l : List TWrite) (o : Option TWrite), writesGo o l = true → (∀ w ∈ l, write1 w = true) ∧ l.Pairwise (fun a b => plW a < plW b) ∧ (∀ v, o = some v → ∀ w ∈ l, plW v < plW w)
  | [], o, _ => ⟨by simp, List.Pairwise.nil, by simp⟩
  | a :: l, none, h => by
    simp only [writesGo, Bool.and_eq_true] at h
    obtain ⟨h1, h2, h3⟩ := writes_go l _ h.2
    refine ⟨fun w hw => ?_, List.pairwise_cons.2 ⟨fun w hw => h3 a rfl w hw, h2⟩, fun v hv => by cases hv⟩
    rcases List.mem_cons.1 hw with rfl | hw
    · exact h.1
    · exact h1 w hw
  | a :: l, some v, h => by
    simp only [writesGo, Bool.and_eq_true, decide_eq_true_eq] at h
    obtain ⟨h1, h2, h3⟩ := writes_go l _ h.2
    refine ⟨fun w hw => ?_, List.pairwise_cons.2 ⟨fun w hw => h3 a rfl w hw, h2⟩, fun v' hv w hw => ?_⟩
    · rcases List.mem_cons.1 hw with rfl | hw
      · exact h.1.1
      · exact h1 w hw
    · cases hv
      rcases List.mem_cons.1 hw with rfl | hw
      · exact h.1.2
      · have := h3 a rfl w hw
        have := h.1.2
        simp only [plW] at *
        omega
theorem writes_may {l : List TWrite} (h : writesMay l = true) : (∀ w ∈ l, write1 w = true) ∧ l.Pairwise (fun a b => plW a < plW b) ∧ l.length ≤ 16 := by
  simp only [writesMay, Bool.and_eq_true, decide_eq_true_eq] at h
  obtain ⟨h1, h2, _⟩ := writes_go l none h.1
  exact ⟨h1, h2, h.2⟩
theorem writes_go_of : ∀ (l : List TWrite) (o : Option TWrite), (∀ w ∈ l, write1 w = true) → l.Pairwise (fun a b => plW a < plW b) → (∀ v, o = some v → ∀ w ∈ l, plW v < plW w) → writesGo o l = true
  | [], o, _, _, _ => by cases o <;> rfl
  | a :: l, none, h1, h2, h3 => by
    obtain ⟨g1, g2⟩ := List.pairwise_cons.1 h2
    simp only [writesGo, Bool.and_eq_true]
    exact ⟨h1 a (by simp), writes_go_of l _ (fun w hw => h1 w (by simp [hw])) g2 (fun v hv w hw => by cases hv; exact g1 w hw)⟩
  | a :: l, some v, h1, h2, h3 => by
    obtain ⟨g1, g2⟩ := List.pairwise_cons.1 h2
    simp only [writesGo, Bool.and_eq_true, decide_eq_true_eq]
    exact ⟨⟨h1 a (by simp), h3 v rfl a (by simp)⟩, writes_go_of l _ (fun w hw => h1 w (by simp [hw])) g2 (fun v hv w hw => by cases hv; exact g1 w hw)⟩
def geW (w x : TWrite) : Bool := decide (plW w ≤ plW x)
def outW (w : TWrite) (l : List TWrite) : List TWrite := if l.any (geW w) = true then insW w l else l
theorem insW_lt (w : TWrite) (r : List TWrite) : ∀ (l : List TWrite), l.any (geW w) = false → insW w (l ++ r) = l ++ insW w r
  | [], _ => rfl
  | a :: l, h => by
    simp only [List.any_cons, Bool.or_eq_false_iff, geW, decide_eq_false_iff_not] at h
    simp only [List.cons_append, insW]
    rw [if_pos (by simp only [plW] at h; omega), insW_lt w r l (by simpa [geW] using h.2)]
theorem insW_app (w x : TWrite) : ∀ (l : List TWrite), l.any (geW w) = true → insW w (l ++ [x]) = insW w l ++ [x]
  | [], h => by simp at h
  | a :: l, h => by
    simp only [List.cons_append, insW]
    split
    · rename_i hlt
      have : l.any (geW w) = true := by
        simp only [List.any_cons, Bool.or_eq_true] at h
        rcases h with h | h
        · simp only [geW, decide_eq_true_eq, plW] at h; omega
        · exact h
      rw [insW_app w x l this]; rfl
    · split <;> rfl
theorem out_skip {w x : TWrite} {l : List TWrite} (h : l.any (geW w) = false) (hx : plW x < plW w) : outW w (l ++ [x]) = l ++ [x] ∧ (l ++ [x]).any (geW w) = false := by
  have : (l ++ [x]).any (geW w) = false := by
    rw [List.any_append, h, Bool.false_or]
    simp only [List.any_cons, List.any_nil, Bool.or_false, geW, decide_eq_false_iff_not]; omega
  exact ⟨by simp only [outW, this]; rfl, this⟩
theorem out_new {w x : TWrite} {l : List TWrite} (h : l.any (geW w) = false) (hx : plW w < plW x) : outW w (l ++ [x]) = (l ++ [w]) ++ [x] ∧ (l ++ [x]).any (geW w) = true := by
  have : (l ++ [x]).any (geW w) = true := by
    rw [List.any_append, h, Bool.false_or]
    simp only [List.any_cons, List.any_nil, Bool.or_false, geW, decide_eq_true_eq]; omega
  refine ⟨?_, this⟩
  simp only [outW, this, if_true, insW_lt w [x] l h, insW]
  rw [if_neg (by simp only [plW] at hx; omega), if_neg (by simp only [plW] at hx; omega)]
  simp
theorem out_same {w x : TWrite} {l : List TWrite} (h : l.any (geW w) = false) (hx : plW x = plW w) : outW w (l ++ [x]) = l ++ [w] ∧ (l ++ [x]).any (geW w) = true := by
  have : (l ++ [x]).any (geW w) = true := by
    rw [List.any_append, h, Bool.false_or]
    simp only [List.any_cons, List.any_nil, Bool.or_false, geW, decide_eq_true_eq]; omega
  refine ⟨?_, this⟩
  simp only [outW, this, if_true, insW_lt w [x] l h, insW]
  rw [if_neg (by simp only [plW] at hx; omega), if_pos (by simp only [plW] at hx; omega)]
theorem out_more {w x : TWrite} {l : List TWrite} (h : l.any (geW w) = true) : outW w (l ++ [x]) = outW w l ++ [x] ∧ (l ++ [x]).any (geW w) = true := by
  have : (l ++ [x]).any (geW w) = true := by rw [List.any_append, h, Bool.true_or]
  exact ⟨by simp only [outW, this, h, if_true, insW_app w x l h], this⟩
theorem out_end {w : TWrite} {l : List TWrite} : insW w l = if l.any (geW w) = true then outW w l else l ++ [w] := by
  split
  · rename_i h; simp only [outW, h, if_true]
  · rename_i h
    have := insW_lt w [] l (by simpa using h)
    simpa [insW] using this
theorem any_lt {w x : TWrite} {l : List TWrite} (h : l.any (geW w) = true) (hs : ∀ y ∈ l, plW y < plW x) : plW w < plW x := by
  obtain ⟨y, hy, hge⟩ := List.any_eq_true.1 h
  simp only [geW, decide_eq_true_eq] at hge
  have := hs y hy
  omega
theorem out_len (w : TWrite) (l : List TWrite) : (outW w l).length ≤ l.length + 1 := by
  have : ∀ l : List TWrite, (insW w l).length ≤ l.length + 1 := by
    intro l
    induction l with
    | nil => simp [insW]
    | cons a l ih =>
      simp only [insW]
      split
      · simp only [List.length_cons]; omega
      · split <;> simp
  simp only [outW]; split
  · exact this l
  · omega
end Ve
