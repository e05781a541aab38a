/- Laws of the models: a word written back. -/
import Derived.Test.YtjllmdplakoanaaGreatPL4
set_option linter.all false
set_option linter.unusedSectionVars false
namespace Ve
open Go
theorem setA_len {α : Type} (ws : A4 (List α)) (l i : Int) (w : α) : (setA ws l i w).a0.length = ws.a0.length ∧ (setA ws l i w).a1.length = ws.a1.length ∧ (setA ws l i w).a2.length = ws.a2.length ∧ (setA ws l i w).a3.length = ws.a3.length := by
  unfold setA A4.set A4.get
  split
  · simp
  · split
    · simp
    · split <;> simp
theorem row_set {l : List TWord} (h : rowMay l = true) (i : Nat) {w : TWord} (hw : wordMay w = true) : rowMay (l.set i w) = true := by
  simp only [rowMay, Bool.and_eq_true, List.length_set, List.all_eq_true] at h ⊢
  refine ⟨h.1, fun x hx => ?_⟩
  rcases List.mem_or_eq_of_mem_set hx with hx | rfl
  · exact h.2 x hx
  · exact hw
theorem arena_set {ws : A4 (List TWord)} (h : arenaMay ws = true) (l i : Int) {w : TWord} (hw : wordMay w = true) : arenaMay (setA ws l i w) = true := by
  simp only [arenaMay, A4.all, Bool.and_eq_true] at h ⊢
  obtain ⟨⟨⟨h0, h1⟩, h2⟩, h3⟩ := h
  unfold setA A4.set A4.get
  split
  · exact ⟨⟨⟨row_set h0 _ hw, h1⟩, h2⟩, h3⟩
  · split
    · exact ⟨⟨⟨h0, row_set h1 _ hw⟩, h2⟩, h3⟩
    · split
      · exact ⟨⟨⟨h0, h1⟩, row_set h2 _ hw⟩, h3⟩
      · exact ⟨⟨⟨h0, h1⟩, h2⟩, row_set h3 _ hw⟩
theorem setW_may {m : TMach} (hM : MayP m) (l i : Int) {w : TWord} (hw : wordMay w = true) : MayP (setW m l i w) := by
  obtain ⟨h0, h1, h2, h3⟩ := setA_len m.words l i w
  exact mayP_words hM (arena_set hM.arena l i hw) h0 h1 h2 h3
theorem sp_setW {m : TMach} {s : TSess} (l i : Int) (w : TWord) : SP (setW m l i w).words s ↔ SP m.words s := by
  obtain ⟨h0, h1, h2, h3⟩ := setA_len m.words l i w
  rw [← sp, ← sp, sessMay_len (ws := m.words) (ws' := (setW m l i w).words) (fun l i => wThere_len h0 h1 h2 h3 l i)]
theorem wrote_may {m : TMach} {k n : Nat} {s : TSess} {w : TWrite} (hs : m.sess[k]? = some s) (hM : MayP m) (hS : SP m.words s) (hp : s.at_ = (n : Int)) (hn : n < s.writes.length) (hv : inR w.val 255 = true) : MayP (wroteM m k s w) := by
  have hw : wordMay ⟨w.val, s.stamp, 0⟩ = true := by simp only [wordMay, hv, hS.stamp]; rfl
  refine mayP_set (setW_may hM _ _ hw) (s := s) hs rfl ((sp_setW _ _ _).2 ?_)
  exact { hS with at_ := by rw [inR_le]; show 0 ≤ s.at_ + 1 ∧ s.at_ + 1 ≤ (s.writes.length : Int); omega }
/-- what a word is, behind a writing -/
def wantW (last : Bool) (s : TSess) (w : TWrite) (g i : Int) (v : TWord) : TWord :=
  if (decide (g = w.level) && decide (i = w.index)) = true then ⟨w.val, s.stamp, 0⟩ else if (last && decide (v.lock = s.id + 1)) = true then ⟨v.val, v.ver, 0⟩ else v
theorem freeW_new (c a b : Int) : freeW c ⟨a, b, 0⟩ = ⟨a, b, 0⟩ := by unfold freeW; split <;> rfl
theorem get_set_row (ws : A4 (List TWord)) (w : TWrite) (x : TWord) (g : Int) (i : Nat) (v : TWord) (hg : inR g 3 = true) (hl : inR w.level 3 = true) (hi0 : 0 ≤ w.index) (hv : (ws.get g)[i]? = some v) :
    ((setA ws w.level w.index x).get g)[i]? = some (if (decide (g = w.level) && decide ((i : Int) = w.index)) = true then x else v) := by
  have hlen := get_lt hv
  rw [inR_le] at hg hl
  have key : ∀ l : List TWord, l[i]? = some v → (l.set w.index.toNat x)[i]? = some (if ((i : Int) = w.index) then x else v) := by
    intro l h
    have hlen := get_lt h
    rw [List.getElem?_set]
    by_cases hc : (i : Int) = w.index
    · have : w.index.toNat = i := by omega
      simp [this, hlen, hc]
    · have : ¬ w.index.toNat = i := by omega
      simp [this, hc, h]
  by_cases hgl : g = w.level
  · have e : (decide (g = w.level) && decide ((i : Int) = w.index)) = decide ((i : Int) = w.index) := by simp [hgl]
    rw [e]
    have e2 : (if decide ((i : Int) = w.index) = true then x else v) = if (i : Int) = w.index then x else v := by simp
    rw [e2, ← key _ hv]
    congr 1
    rw [← hgl]
    unfold setA A4.set A4.get
    split
    · simp_all
    · split
      · simp_all
      · split <;> simp_all
  · have e : (decide (g = w.level) && decide ((i : Int) = w.index)) = false := by simp [hgl]
    rw [e]
    simp only [Bool.false_eq_true, if_false]
    rw [← hv]
    congr 1
    unfold setA A4.set A4.get
    have h4 : (g = 0 ∨ g = 1 ∨ g = 2 ∨ g = 3) ∧ (w.level = 0 ∨ w.level = 1 ∨ w.level = 2 ∨ w.level = 3) := by omega
    obtain ⟨h4, h5⟩ := h4
    rcases h4 with h4 | h4 | h4 | h4 <;> rcases h5 with h5 | h5 | h5 | h5 <;> first | (exfalso; omega) | (rw [h4, h5]; rfl)
theorem get_free (c : Int) (m : TMach) (g : Int) (i : Nat) : ((freeM c m).words.get g)[i]? = ((m.words.get g)[i]?).map (freeW c) := by
  unfold freeM A4.get
  split
  · simp
  · split
    · simp
    · split <;> simp
theorem free_len (c : Int) (m : TMach) : (freeM c m).words.a0.length = m.words.a0.length ∧ (freeM c m).words.a1.length = m.words.a1.length ∧ (freeM c m).words.a2.length = m.words.a2.length ∧ (freeM c m).words.a3.length = m.words.a3.length := by
  simp [freeM]
/-- what a writing leaves -/
structure Wrote (m : TMach) (k : Nat) (s : TSess) (w : TWrite) (last : Bool) (a : TMach) (t : TSess) : Prop where
  l0 : a.words.a0.length = m.words.a0.length
  l1 : a.words.a1.length = m.words.a1.length
  l2 : a.words.a2.length = m.words.a2.length
  l3 : a.words.a3.length = m.words.a3.length
  word : ∀ (g : Int) (i : Nat) (v : TWord), inR g 3 = true → (m.words.get g)[i]? = some v → (a.words.get g)[i]? = some (wantW last s w g i v)
  clocks : a.clocks = m.clocks
  slen : a.sess.length = m.sess.length
  sess : a.sess[k]? = some t
  done : last = true → t.step = 6 ∧ t.result = 1
  more : last = false → t.at_ = s.at_ + 1 ∧ t.step = 4
theorem back_leaves {m : TMach} {k n : Nat} {s : TSess} {w : TWrite} (hs : m.sess[k]? = some s) (hM : MayP m) (hS : SP m.words s) (hst : s.step = 4) (hp : s.at_ = (n : Int)) (hn : n < s.writes.length) (hi : s.writes[n]? = some w) :
    ∃ t, Wrote m k s w (decide (s.at_ + 1 = s.writes.length)) (backM m k).1 t ∧ (backM m k).2 = 0 := by
  have hl := left_on hs hM hst hp hi
  obtain ⟨h1, h2⟩ := wth_write hS hi
  simp only [write1, Bool.and_eq_true] at h2
  have h3 := h1
  simp only [wThere, Bool.and_eq_true, decide_eq_true_eq] at h3
  have hmay := wrote_may hs hM hS hp hn h2.2
  obtain ⟨q0, q1, q2, q3⟩ := setA_len m.words w.level w.index ⟨w.val, s.stamp, 0⟩
  have hk := get_lt hs
  have hs' : (wroteM m k s w).sess[k]? = some { s with at_ := s.at_ + 1 } := List.getElem?_set_self (by simpa [setW] using hk)
  by_cases hlast : s.at_ + 1 = s.writes.length
  · have e : backM m k = endM (wroteM m k s w) k 1 0 := by unfold backM; rw [hl]; simp only [hlast, if_true]
    rw [e, end_at hs' hmay (by decide) (by decide)]
    have hd : decide (s.at_ + 1 = (s.writes.length : Int)) = true := by simpa using hlast
    rw [hd]
    obtain ⟨f0, f1, f2, f3⟩ := free_len (s.id + 1) (wroteM m k s w)
    refine ⟨endS { s with at_ := s.at_ + 1 } 1 0, ⟨?_, ?_, ?_, ?_, ?_, ?_, ?_, ?_, fun _ => ⟨rfl, rfl⟩, fun h => by cases h⟩, rfl⟩
    · rw [ended_words]; exact f0.trans q0
    · rw [ended_words]; exact f1.trans q1
    · rw [ended_words]; exact f2.trans q2
    · rw [ended_words]; exact f3.trans q3
    · intro g i v hg hv
      rw [ended_words, get_free]
      have := get_set_row m.words w ⟨w.val, s.stamp, 0⟩ g i v hg h2.1.1 h3.1.2 hv
      show (((setA m.words w.level w.index ⟨w.val, s.stamp, 0⟩).get g)[i]?).map (freeW (s.id + 1)) = _
      rw [this]
      simp only [Option.map_some, wantW, Bool.true_and]
      congr 1
      split
      · exact freeW_new _ _ _
      · unfold freeW
        by_cases hc : v.lock = s.id + 1
        · simp [hc]
        · simp [hc]
    · rw [ended_clocks]; rfl
    · rw [ended_sess]; simp [wroteM, setS, setW]
    · rw [ended_sess]; exact List.getElem?_set_self (by simpa [wroteM, setS, setW] using hk)
  · have e : backM m k = (wroteM m k s w, 0) := by unfold backM; rw [hl]; simp only [hlast, if_false]
    rw [e]
    have hd : decide (s.at_ + 1 = (s.writes.length : Int)) = false := by simpa using hlast
    rw [hd]
    refine ⟨{ s with at_ := s.at_ + 1 }, ⟨q0, q1, q2, q3, ?_, rfl, by simp [wroteM, setS, setW], hs', (fun h => by cases h), fun _ => ⟨rfl, hst⟩⟩, rfl⟩
    intro g i v hg hv
    have := get_set_row m.words w ⟨w.val, s.stamp, 0⟩ g i v hg h2.1.1 h3.1.2 hv
    show ((setA m.words w.level w.index ⟨w.val, s.stamp, 0⟩).get g)[i]? = _
    rw [this]
    simp only [wantW, Bool.false_and, Bool.false_eq_true, if_false]
end Ve
