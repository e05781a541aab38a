/- Laws of the models: there is room for a read. -/
import Derived.Test.YtapgmjgledahiaaGreatVeP
set_option linter.all false
set_option linter.unusedSectionVars false
namespace Ve
open Go
theorem nodup_lt_len : ∀ (n : Nat) (l : List Nat), l.Nodup → (∀ x ∈ l, x < n) → l.length ≤ n
  | 0, l, _, h => by
    cases l with
    | nil => simp
    | cons a l => have := h a (by simp); omega
  | n + 1, l, hd, h => by
    have h1 := nodup_lt_len n (l.erase n) (hd.erase n) (fun x hx => by
      have h2 := List.mem_of_mem_erase hx
      have h3 := h x h2
      have h4 : x ≠ n := by
        intro e; subst e
        exact absurd hx (by rw [hd.mem_erase_iff]; simp)
      omega)
    rw [List.length_erase] at h1
    split at h1 <;> omega
def plR (r : TRead) : Nat := (4 * r.level + r.index).toNat
theorem reads_go : ∀ (l pre : List TRead), readsGo pre l = true → (∀ r ∈ l, read1 r = true) ∧ (l.Pairwise fun a b => sameR b a = false) ∧ (∀ p ∈ pre, ∀ r ∈ l, sameR r p = false)
  | [], pre, _ => ⟨by simp, List.Pairwise.nil, by simp⟩
  | a :: l, pre, h => by
    simp only [readsGo, Bool.and_eq_true, Bool.not_eq_true'] at h
    obtain ⟨h1, h2, h3⟩ := reads_go l _ h.2
    have hany : ∀ p ∈ pre, sameR a p = false := by
      intro p hp
      have := List.any_eq_false.1 h.1.2 p hp
      simpa using this
    refine ⟨fun r hr => ?_, List.pairwise_cons.2 ⟨fun b hb => h3 a (by simp) b hb, h2⟩, fun p hp r hr => ?_⟩
    · rcases List.mem_cons.1 hr with rfl | hr
      · exact h.1.1
      · exact h1 r hr
    · rcases List.mem_cons.1 hr with rfl | hr
      · exact hany p hp
      · exact h3 p (by simp [hp]) r hr
theorem reads_go_of : ∀ (l pre : List TRead), (∀ r ∈ l, read1 r = true) → (l.Pairwise fun a b => sameR b a = false) → (∀ p ∈ pre, ∀ r ∈ l, sameR r p = false) → readsGo pre l = true
  | [], pre, _, _, _ => rfl
  | a :: l, pre, h1, h2, h3 => by
    obtain ⟨g1, g2⟩ := List.pairwise_cons.1 h2
    simp only [readsGo, Bool.and_eq_true, Bool.not_eq_true']
    refine ⟨⟨h1 a (by simp), List.any_eq_false.2 (fun p hp => by simpa using h3 p hp a (by simp))⟩, reads_go_of l _ (fun r hr => h1 r (by simp [hr])) g2 (fun p hp r hr => ?_)⟩
    rcases List.mem_append.1 hp with hp | hp
    · exact h3 p hp r (by simp [hr])
    · simp only [List.mem_singleton] at hp; subst hp; exact g1 r hr
theorem reads_may {l : List TRead} (h : readsMay l = true) : (∀ r ∈ l, read1 r = true) ∧ (l.Pairwise fun a b => sameR b a = false) ∧ l.length ≤ 16 := by
  simp only [readsMay, Bool.and_eq_true, decide_eq_true_eq] at h
  obtain ⟨h1, h2, _⟩ := reads_go l [] h.1
  exact ⟨h1, h2, h.2⟩
theorem plR_lt {r : TRead} (h : read1 r = true) : plR r < 16 ∧ ((plR r : Nat) : Int) = 4 * r.level + r.index := by
  simp only [read1, Bool.and_eq_true, inR_le] at h
  unfold plR; omega
theorem plR_same {a b : TRead} (ha : read1 a = true) (hb : read1 b = true) (h : sameR b a = false) : plR a ≠ plR b := by
  intro e
  have h1 := (plR_lt ha).2
  have h2 := (plR_lt hb).2
  simp only [read1, Bool.and_eq_true, inR_le] at ha hb
  simp only [sameR, Bool.and_eq_false_iff, decide_eq_false_iff_not] at h
  omega
theorem reads_places {l : List TRead} (h1 : ∀ r ∈ l, read1 r = true) (h2 : l.Pairwise fun a b => sameR b a = false) : l.length ≤ 16 := by
  have hd : (l.map plR).Nodup := by
    rw [List.nodup_iff_pairwise_ne, List.pairwise_map]
    exact h2.imp_of_mem (fun ha hb h => plR_same (h1 _ ha) (h1 _ hb) h)
  have := nodup_lt_len 16 (l.map plR) hd (fun x hx => by
    obtain ⟨r, hr, rfl⟩ := List.mem_map.1 hx
    exact (plR_lt (h1 r hr)).1)
  simpa using this
/-- a read more -/
theorem read_room {l : List TRead} {r : TRead} (h : readsMay l = true) (hr : read1 r = true) : (withRead l r = (l, 0) ∧ l.any (sameR r) = true) ∨ (withRead l r = (l ++ [r], 0) ∧ l.any (sameR r) = false ∧ readsMay (l ++ [r]) = true) := by
  obtain ⟨h1, h2, h3⟩ := reads_may h
  cases ha : l.any (sameR r) with
  | true => exact .inl ⟨by simp only [withRead, h, hr, ha, Bool.and_self, if_true], rfl⟩
  | false =>
    have g1 : ∀ x ∈ l ++ [r], read1 x = true := by
      intro x hx
      rcases List.mem_append.1 hx with hx | hx
      · exact h1 x hx
      · simp only [List.mem_singleton] at hx; subst hx; exact hr
    have g2 : (l ++ [r]).Pairwise fun a b => sameR b a = false := by
      rw [List.pairwise_append]
      refine ⟨h2, List.pairwise_singleton _ _, fun a ha' b hb => ?_⟩
      simp only [List.mem_singleton] at hb; subst hb
      have := List.any_eq_false.1 ha a ha'
      simpa using this
    have g3 := reads_places g1 g2
    have hne : l.length ≠ 16 := by simp at g3; omega
    refine .inr ⟨by simp only [withRead, h, hr, ha, Bool.and_self, if_true, Bool.false_eq_true, if_false, hne], rfl, ?_⟩
    simp only [readsMay, Bool.and_eq_true, decide_eq_true_eq]
    exact ⟨reads_go_of _ _ g1 g2 (by simp), g3⟩
end Ve
