/- Laws of the models: where a session stands. -/
import Derived.Test.YtjllmdplakoanaaGreatPL3
set_option linter.all false
set_option linter.unusedSectionVars false
namespace Ve
open Go
/-- where a machine's session is: none; at no instruction; at one -/
inductive At (m : TMach) (at_ : Int) : Prop
  | no (h : hereM m at_ = false)
  | off (k : Nat) (s : TSess) (e : at_ = (k : Nat)) (hs : m.sess[k]? = some s) (hM : MayP m) (hS : SP m.words s) (hst : s.step ≠ 0)
  | fin (k : Nat) (s : TSess) (e : at_ = (k : Nat)) (hs : m.sess[k]? = some s) (hM : MayP m) (hS : SP m.words s) (hst : s.step = 0) (hp : s.pc = (s.prog.length : Int))
  | on (k n : Nat) (s : TSess) (i : TInst) (e : at_ = (k : Nat)) (hs : m.sess[k]? = some s) (hM : MayP m) (hS : SP m.words s) (hst : s.step = 0) (hp : s.pc = (n : Int)) (hn : n < s.prog.length) (hi : s.prog[n]? = some i)
theorem at_cases (m : TMach) (at_ : Int) : At m at_ := by
  rcases here_cases m at_ with h | ⟨k, s, e, hs, hM, hS⟩
  · exact .no h
  · by_cases hst : s.step = 0
    · have hp := inR_le.1 hS.pc
      by_cases hpl : s.pc = (s.prog.length : Int)
      · exact .fin k s e hs hM hS hst hpl
      · have hn : s.pc.toNat < s.prog.length := by omega
        exact .on k s.pc.toNat s s.prog[s.pc.toNat] e hs hM hS hst (by omega) hn (by simp [hn])
    · exact .off k s e hs hM hS hst
theorem here_k {m : TMach} {k : Nat} {s : TSess} (hs : m.sess[k]? = some s) (hM : MayP m) : hereM m k = true := here_of hM (get_lt hs)
theorem cur_no {m : TMach} {at_ : Int} (h : hereM m at_ = false) : curI m at_ = none := by simp [curI, h]
theorem cur_off {m : TMach} {k : Nat} {s : TSess} (hs : m.sess[k]? = some s) (hM : MayP m) (h : s.step ≠ 0) : curI m k = none := by
  simp only [curI, here_k hs hM, if_true, Int.toNat_natCast, hs, h, if_false]
theorem cur_fin {m : TMach} {k : Nat} {s : TSess} (hs : m.sess[k]? = some s) (hM : MayP m) (h : s.step = 0) (hp : s.pc = (s.prog.length : Int)) : curI m k = none := by
  simp only [curI, here_k hs hM, if_true, Int.toNat_natCast, hs, h, hp, List.getElem?_eq_none (Nat.le_refl _)]
theorem cur_on {m : TMach} {k n : Nat} {s : TSess} {i : TInst} (hs : m.sess[k]? = some s) (hM : MayP m) (h : s.step = 0) (hp : s.pc = (n : Int)) (hi : s.prog[n]? = some i) : curI m k = some (s, i) := by
  simp only [curI, here_k hs hM, if_true, Int.toNat_natCast, hs, h, hp, hi]
theorem prog_go : ∀ (l : List TInst) (n : Int) (j : Int), progGo n j l = true → ∀ (k : Nat) (i : TInst), l[k]? = some i → instMay i = true ∧ (i.code = 4 → j + k < i.b ∧ i.b ≤ n)
  | [], n, j, _, k, i, h => by simp at h
  | a :: l, n, j, hg, k, i, h => by
    simp only [progGo, Bool.and_eq_true, Bool.not_eq_true', Bool.and_eq_false_iff, Bool.or_eq_false_iff, decide_eq_false_iff_not] at hg
    cases k with
    | zero =>
      simp only [List.getElem?_cons_zero, Option.some.injEq] at h
      subst h
      refine ⟨hg.1.1, fun hc => ?_⟩
      rcases hg.1.2 with h | h
      · exact absurd hc h
      · simp only [Int.natCast_zero]; omega
    | succ k =>
      have := prog_go l n (j + 1) hg.2 k i (by simpa using h)
      refine ⟨this.1, fun hc => ?_⟩
      have := this.2 hc
      omega
theorem sp_inst {ws : A4 (List TWord)} {s : TSess} (h : SP ws s) {n : Nat} {i : TInst} (hi : s.prog[n]? = some i) : instMay i = true ∧ (i.code = 4 → (n : Int) < i.b ∧ i.b ≤ s.prog.length) ∧ ((i.code = 2 ∨ i.code = 3) → wThere ws i.b i.c = true) := by
  have hp := h.prog
  simp only [progMay, Bool.and_eq_true] at hp
  obtain ⟨h1, h2⟩ := prog_go _ _ _ hp.1 n i hi
  refine ⟨h1, fun hc => by have := h2 hc; omega, fun hc => ?_⟩
  have := h.pthere
  simp only [progThere, List.all_eq_true] at this
  have := this i (List.mem_of_getElem? hi)
  simp only [Bool.or_eq_true, Bool.not_eq_true', wordIs, Bool.or_eq_false_iff, decide_eq_false_iff_not] at this
  rcases this with h' | h'
  · exact absurd hc (by rintro (hc | hc); exact h'.1 hc; exact h'.2 hc)
  · exact h'
theorem inst_code {i : TInst} (h : instMay i = true) : i.code = 0 ∨ i.code = 1 ∨ i.code = 2 ∨ i.code = 3 ∨ i.code = 4 ∨ i.code = 5 ∨ i.code = 6 := by
  unfold instMay at h
  split at h
  · simp [*]
  split at h
  · simp [*]
  split at h
  · rename_i h'; rcases h' with h' | h' <;> simp [h']
  split at h
  · simp [*]
  split at h
  · simp [*]
  split at h
  · simp [*]
  · cases h
theorem inst_reg {i : TInst} (h : instMay i = true) (hc : i.code ≠ 5 ∧ i.code ≠ 6) : inR i.a 3 = true := by
  unfold instMay at h
  split at h
  · simp only [Bool.and_eq_true] at h; exact h.1.1
  split at h
  · simp only [Bool.and_eq_true] at h; exact h.1.1
  split at h
  · simp only [Bool.and_eq_true] at h; exact h.1.1
  split at h
  · simp only [Bool.and_eq_true] at h; exact h.1.1
  split at h
  · rename_i h5; exact absurd h5 hc.1
  split at h
  · rename_i h5; exact absurd h5 hc.2
  · cases h
theorem inst_told {i : TInst} (h : instMay i = true) (hc : i.code = 6) : inR i.a 255 = true := by
  unfold instMay at h
  simp only [hc] at h
  simp only [show ((6 : Int) = 0) = False by decide, show ((6 : Int) = 1) = False by decide, show ((6 : Int) = 2 ∨ (6 : Int) = 3) = False by decide, show ((6 : Int) = 4) = False by decide, show ((6 : Int) = 5) = False by decide, if_false, if_true, Bool.and_eq_true] at h
  exact h.1.1
theorem inst_lab {i : TInst} (h : instMay i = true) (hc : i.code = 2 ∨ i.code = 3) : inR i.b 3 = true ∧ inR i.c 3 = true := by
  unfold instMay at h
  have h0 : ¬ i.code = 0 := by omega
  have h1 : ¬ i.code = 1 := by omega
  simp only [h0, h1, if_false, hc, if_true, Bool.and_eq_true] at h
  exact ⟨h.1.2, h.2⟩
theorem inst_set {i : TInst} (h : instMay i = true) (hc : i.code = 0) : inR i.b 255 = true := by
  unfold instMay at h
  simp only [hc, if_true, Bool.and_eq_true] at h
  exact h.1.2
theorem inst_add {i : TInst} (h : instMay i = true) (hc : i.code = 1) : inR i.b 3 = true := by
  unfold instMay at h
  simp only [hc, show ((1 : Int) = 0) = False by decide, if_false, if_true, Bool.and_eq_true] at h
  exact h.1.2
/-- the write that is next -/
inductive Lf (m : TMach) (at_ step : Int) : Prop
  | no (h : hereM m at_ = false)
  | off (k : Nat) (s : TSess) (e : at_ = (k : Nat)) (hs : m.sess[k]? = some s) (hM : MayP m) (hS : SP m.words s) (hst : s.step ≠ step)
  | fin (k : Nat) (s : TSess) (e : at_ = (k : Nat)) (hs : m.sess[k]? = some s) (hM : MayP m) (hS : SP m.words s) (hst : s.step = step) (hp : s.at_ = (s.writes.length : Int))
  | on (k n : Nat) (s : TSess) (w : TWrite) (e : at_ = (k : Nat)) (hs : m.sess[k]? = some s) (hM : MayP m) (hS : SP m.words s) (hst : s.step = step) (hp : s.at_ = (n : Int)) (hn : n < s.writes.length) (hi : s.writes[n]? = some w)
theorem lf_cases (m : TMach) (at_ step : Int) : Lf m at_ step := by
  rcases here_cases m at_ with h | ⟨k, s, e, hs, hM, hS⟩
  · exact .no h
  · by_cases hst : s.step = step
    · have hp := inR_le.1 hS.at_
      by_cases hpl : s.at_ = (s.writes.length : Int)
      · exact .fin k s e hs hM hS hst hpl
      · have hn : s.at_.toNat < s.writes.length := by omega
        exact .on k s.at_.toNat s s.writes[s.at_.toNat] e hs hM hS hst (by omega) hn (by simp [hn])
    · exact .off k s e hs hM hS hst
theorem curS_no {m : TMach} {at_ st : Int} (h : hereM m at_ = false) : curS m at_ st = none := by simp [curS, h]
theorem curS_off {m : TMach} {k : Nat} {s : TSess} {st : Int} (hs : m.sess[k]? = some s) (hM : MayP m) (h : s.step ≠ st) : curS m k st = none := by
  simp only [curS, here_k hs hM, if_true, Int.toNat_natCast, hs, h, if_false]
theorem curS_on {m : TMach} {k : Nat} {s : TSess} {st : Int} (hs : m.sess[k]? = some s) (hM : MayP m) (h : s.step = st) : curS m k st = some s := by
  simp only [curS, here_k hs hM, if_true, Int.toNat_natCast, hs, h]
theorem left_none {m : TMach} {at_ st : Int} (h : curS m at_ st = none) : leftM m at_ st = none := by unfold leftM; rw [h]
theorem left_fin {m : TMach} {k : Nat} {s : TSess} {st : Int} (hs : m.sess[k]? = some s) (hM : MayP m) (h : s.step = st) (hp : s.at_ = (s.writes.length : Int)) : leftM m k st = none := by
  have h1 : s.writes[s.at_.toNat]? = none := by rw [hp]; simp
  unfold leftM; rw [curS_on hs hM h]; simp only [h1]
theorem left_on {m : TMach} {k n : Nat} {s : TSess} {w : TWrite} {st : Int} (hs : m.sess[k]? = some s) (hM : MayP m) (h : s.step = st) (hp : s.at_ = (n : Int)) (hi : s.writes[n]? = some w) : leftM m k st = some (s, w) := by
  have h1 : s.writes[s.at_.toNat]? = some w := by rw [hp]; simpa using hi
  unfold leftM; rw [curS_on hs hM h]; simp only [h1]
theorem wth_write {ws : A4 (List TWord)} {s : TSess} (h : SP ws s) {n : Nat} {w : TWrite} (hi : s.writes[n]? = some w) : wThere ws w.level w.index = true ∧ write1 w = true := by
  have h1 := h.wthere
  simp only [writesThere, List.all_eq_true] at h1
  exact ⟨h1 w (List.mem_of_getElem? hi), (writes_may h.writes).1 w (List.mem_of_getElem? hi)⟩
end Ve
