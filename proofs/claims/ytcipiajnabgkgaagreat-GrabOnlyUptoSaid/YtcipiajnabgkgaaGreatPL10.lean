/- Laws of the models: what a grab turns. -/
import Derived.Test.YtcipiajnabgkgaaGreatPL6
set_option linter.all false
set_option linter.unusedSectionVars false
namespace Ve
open Go
/-- how many of the first n words' locks turned -/
def difR (xs ys : List TWord) : Nat → Int
  | 0 => 0
  | n + 1 => difR xs ys n + (if (xs[n]?.map (·.lock)) = (ys[n]?.map (·.lock)) then 0 else 1)
theorem dif_in (xs ys : List TWord) : ∀ n, 0 ≤ difR xs ys n ∧ difR xs ys n ≤ n
  | 0 => ⟨Int.le_refl _, Int.le_refl _⟩
  | n + 1 => by
    have := dif_in xs ys n
    simp only [difR]
    split <;> omega
theorem dif_same (xs : List TWord) : ∀ n, difR xs xs n = 0
  | 0 => rfl
  | n + 1 => by simp only [difR, dif_same xs n, if_true]; rfl
theorem dif_set {xs : List TWord} {j : Nat} {w x : TWord} (hx : xs[j]? = some x) (h : x.lock ≠ w.lock) : ∀ n, difR xs (xs.set j w) n = if j < n then 1 else 0
  | 0 => by simp [difR]
  | n + 1 => by
    have hj := get_lt hx
    simp only [difR, dif_set hx h n]
    by_cases hjn : j = n
    · subst hjn
      rw [hx, List.getElem?_set_self hj]
      simp [h]
    · rw [List.getElem?_set_ne hjn]
      simp only [if_true]
      by_cases h1 : j < n
      · rw [if_pos h1, if_pos (by omega)]; rfl
      · rw [if_neg h1, if_neg (by omega)]; rfl
/-- a word, behind a grab: as it was; locked; freed -/
def GrW (id : Int) (x y : TWord) : Prop := y.val = x.val ∧ y.ver = x.ver ∧ (x.lock = y.lock ∨ (x.lock ≠ y.lock ∧ y.lock ≠ 0 ∧ x.lock = 0 ∧ y.lock = id + 1) ∨ (x.lock ≠ y.lock ∧ y.lock = 0 ∧ x.lock = id + 1))
structure Gr (m A : TMach) (k : Nat) (s t : TSess) : Prop where
  len : ∀ g, inR g 3 = true → (A.words.get g).length = (m.words.get g).length
  word : ∀ (g : Int) (j : Nat) (x : TWord), inR g 3 = true → (m.words.get g)[j]? = some x → ∃ y, (A.words.get g)[j]? = some y ∧ GrW s.id x y
  clocks : A.clocks = m.clocks
  slen : A.sess.length = m.sess.length
  sess : A.sess[k]? = some t
  fin : t.step = 0 ∨ (t.at_ = s.at_ + 1 ∧ difR m.words.a0 A.words.a0 m.words.a0.length + difR m.words.a1 A.words.a1 m.words.a1.length + difR m.words.a2 A.words.a2 m.words.a2.length + difR m.words.a3 A.words.a3 m.words.a3.length = 1)
theorem get_len4 {ws ws' : A4 (List TWord)} (h0 : ws'.a0.length = ws.a0.length) (h1 : ws'.a1.length = ws.a1.length) (h2 : ws'.a2.length = ws.a2.length) (h3 : ws'.a3.length = ws.a3.length) (g : Int) : (ws'.get g).length = (ws.get g).length := by
  unfold A4.get
  split
  · exact h0
  · split
    · exact h1
    · split
      · exact h2
      · exact h3
theorem grab_leaves {m : TMach} {k n : Nat} {s : TSess} {w : TWrite} (hs : m.sess[k]? = some s) (hM : MayP m) (hS : SP m.words s) (hst : s.step = 1) (hp : s.at_ = (n : Int)) (hi : s.writes[n]? = some w) :
    ∃ t, Gr m (grabM m k).1 k s t ∧ (grabM m k).2 = 0 := by
  have hl := left_on hs hM hst hp hi
  obtain ⟨h1, h2⟩ := wth_write hS hi
  simp only [write1, Bool.and_eq_true] at h2
  have h3 := h1
  simp only [wThere, Bool.and_eq_true, decide_eq_true_eq] at h3
  have hk := get_lt hs
  by_cases hlk : (getW m.words w.level w.index).lock = 0
  · have e : grabM m k = (setS (setW m w.level w.index { getW m.words w.level w.index with lock := s.id + 1 }) k { s with at_ := s.at_ + 1, step := if s.at_ + 1 = s.writes.length then 2 else s.step }, 0) := by
      unfold grabM; rw [hl]; simp only [hlk, if_true, Int.toNat_natCast]
    rw [e]
    obtain ⟨q0, q1, q2, q3⟩ := setA_len m.words w.level w.index { getW m.words w.level w.index with lock := s.id + 1 }
    have hid := inR_le.1 hS.id
    refine ⟨{ s with at_ := s.at_ + 1, step := if s.at_ + 1 = s.writes.length then 2 else s.step }, ⟨?_, ?_, rfl, by simp [setS, setW], List.getElem?_set_self (by simpa [setW] using hk), .inr ⟨rfl, ?_⟩⟩, rfl⟩
    · intro g hg; exact get_len4 q0 q1 q2 q3 g
    · intro g j x hg hx
      have hr := get_set_row m.words w { getW m.words w.level w.index with lock := s.id + 1 } g j x hg h2.1.1 h3.1.2 hx
      refine ⟨_, hr, ?_⟩
      split
      · rename_i hc
        simp only [Bool.and_eq_true, decide_eq_true_eq] at hc
        have hgx : getW m.words w.level w.index = x := by
          unfold getW; rw [← hc.1, ← hc.2, Int.toNat_natCast, hx]; rfl
        rw [hgx] at hlk ⊢
        exact ⟨rfl, rfl, .inr (.inl ⟨by simp only; omega, by simp only; omega, hlk, rfl⟩)⟩
      · exact ⟨rfl, rfl, .inl rfl⟩
    · have hj : w.index.toNat < (m.words.get w.level).length := by omega
      have hx : (m.words.get w.level)[w.index.toNat]? = some (getW m.words w.level w.index) := by
        unfold getW; rw [List.getElem?_eq_getElem hj]; rfl
      have hne : (getW m.words w.level w.index).lock ≠ ({ getW m.words w.level w.index with lock := s.id + 1 } : TWord).lock := by simp only; omega
      have hd := dif_set hx hne (m.words.get w.level).length
      rw [if_pos hj] at hd
      show difR m.words.a0 (setA m.words w.level w.index _).a0 _ + difR m.words.a1 (setA m.words w.level w.index _).a1 _ + difR m.words.a2 (setA m.words w.level w.index _).a2 _ + difR m.words.a3 (setA m.words w.level w.index _).a3 _ = 1
      have hl3 := inR_le.1 h2.1.1
      generalize ({ getW m.words w.level w.index with lock := s.id + 1 } : TWord) = W at hd
      obtain h | h | h | h : w.level = 0 ∨ w.level = 1 ∨ w.level = 2 ∨ w.level = 3 := by omega
      all_goals
        rw [h] at hd ⊢
        simp only [A4.get, simprocAttr] at hd
        simp only [setA, A4.set, A4.get, simprocAttr, dif_same, hd]
  · have e : grabM m k = againM m k 3 := by unfold grabM; rw [hl]; simp only [hlk, if_false]
    rw [e, again_at hs hM (.inl rfl)]
    obtain ⟨f0, f1, f2, f3⟩ := free_len (s.id + 1) m
    refine ⟨againS s, ⟨?_, ?_, anew_clocks 3, by rw [anew_sess]; simp, by rw [anew_sess]; exact List.getElem?_set_self hk, .inl rfl⟩, rfl⟩
    · intro g hg; rw [anew_words]; exact get_len4 f0 f1 f2 f3 g
    · intro g j x hg hx
      rw [anew_words, get_free, hx]
      refine ⟨_, rfl, ?_⟩
      have hid := inR_le.1 hS.id
      unfold freeW
      split
      · rename_i hc
        exact ⟨rfl, rfl, .inr (.inr ⟨by simp only; omega, rfl, hc⟩)⟩
      · exact ⟨rfl, rfl, .inl rfl⟩
end Ve
