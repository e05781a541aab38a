/- The machines of BackAll. -/
import Derived.Test.YtdmcpcghdegheaaGreatPL6
set_option linter.all false
set_option linter.unusedSectionVars false
namespace Ve
open Go
def BAs (ws : List TWrite) (at_ c : Int) : TSess := ⟨3, 0, 3, [⟨2, 0, 0, 0⟩, ⟨1, 0, 0, 0⟩, ⟨3, 0, 0, 0⟩], 4, 0, ⟨0, 0, 0, 0⟩, [], ws, at_, c, 0, 0, 0⟩
def BEs : TSess := ⟨3, 0, 3, [⟨2, 0, 0, 0⟩, ⟨1, 0, 0, 0⟩, ⟨3, 0, 0, 0⟩], 6, 0, ⟨0, 0, 0, 0⟩, [], [], 0, 0, 0, 1, 0⟩
def BS5 : TSess := ⟨5, 1, 1, [⟨2, 0, 0, 1⟩, ⟨3, 0, 1, 0⟩], 0, 0, ⟨0, 0, 0, 0⟩, [], [], 0, 0, 0, 0, 0⟩
def BA (rows : List TWord) (ws : List TWrite) (at_ c : Int) : TMach := ⟨⟨rows, [⟨7, 0, 0⟩], [], [⟨9, 0, 0⟩]⟩, ⟨0, 0, 0, 0⟩, 9, [BAs ws at_ c, BS5], []⟩
def BE (rows : List TWord) : TMach := ⟨⟨rows, [⟨7, 0, 0⟩], [], [⟨9, 0, 0⟩]⟩, ⟨0, 0, 0, 0⟩, 9, [BEs, BS5], [⟨3, 0, 6, 1⟩]⟩
theorem ba_sm {rows : List TWord} {ws : List TWrite} {at_ c : Int} (hr : rows.length = 4) (hw : ws.length ≤ 16) : SmM (BA rows ws at_ c) := by
  refine ⟨by simp [BA, hr], by simp [BA], by simp [BA], by simp [BA], by simp [BA], by simp [BA], ?_⟩
  intro s hs
  simp only [BA, List.mem_cons, List.mem_nil_iff, or_false] at hs
  rcases hs with rfl | rfl
  · exact ⟨by simp [BAs], by simp [BAs], by simp only [BAs]; omega⟩
  · exact ⟨by decide, by decide, by decide⟩
theorem be_sm {rows : List TWord} (hr : rows.length = 4) : SmM (BE rows) := by
  refine ⟨by simp [BE, hr], by simp [BE], by simp [BE], by simp [BE], by simp [BE], by simp [BE], ?_⟩
  intro s hs
  simp only [BE, List.mem_cons, List.mem_nil_iff, or_false] at hs
  rcases hs with rfl | rfl <;> exact ⟨by decide, by decide, by decide⟩
theorem ba_may {rows : List TWord} {ws : List TWrite} {n : Nat} {c : Int} (hr : rows.length = 4) (hrm : rowMay rows = true) (hw : writesMay ws = true) (ht : ∀ w ∈ ws, w.level = 0) (hc : inR c 65535 = true) (hn : n ≤ ws.length) : MayP (BA rows ws n c) ∧ SP (BA rows ws n c).words (BAs ws n c) := by
  have hS : SP (BA rows ws n c).words (BAs ws n c) := by
    refine ⟨rfl, rfl, rfl, by simp only [BAs]; decide, by rfl, by rfl, hw, rfl, ?_, ?_, by rfl, ?_, by rfl, by rfl, by rfl, hc, by rfl, by rfl⟩
    · simp only [writesThere, List.all_eq_true]
      intro w h
      have h1 := (writes_may hw).1 w h
      have h0 := ht w h
      simp only [write1, Bool.and_eq_true, inR_le] at h1
      simp only [wThere, h0, BA, A4.get, hr, Bool.and_eq_true, decide_eq_true_eq]
      refine ⟨⟨by decide, h1.1.2.1⟩, ?_⟩
      simp; omega
    · simp [BAs, BA, progThere, wordIs, wThere, A4.get, hr, inR]
    · rw [inR_le]; simp only [BAs]; omega
  refine ⟨⟨?_, by rfl, by rfl, by simp [BA], by simp [BA], by rfl, ?_, by intro e he; simp [BA] at he⟩, hS⟩
  · simp only [arenaMay, A4.all, BA, hrm]; decide
  · intro s hs
    simp only [BA, List.mem_cons, List.mem_nil_iff, or_false] at hs
    rcases hs with rfl | rfl
    · exact (sp _ _).2 hS
    · refine (sp _ _).2 ⟨by rfl, by rfl, by rfl, by rfl, by rfl, by rfl, by rfl, by rfl, by rfl, ?_, by decide, by decide, by decide, by decide, by decide, by decide, by decide, by decide⟩
      simp [BS5, BA, progThere, wordIs, wThere, A4.get, hr, inR]
theorem ba_step {rows : List TWord} {ws : List TWrite} {n : Nat} {c : Int} {w : TWrite} (hr : rows.length = 4) (hrm : rowMay rows = true) (hw : writesMay ws = true) (ht : ∀ w ∈ ws, w.level = 0) (hc : inR c 65535 = true) (hi : ws[n]? = some w) :
    backM (BA rows ws n c) 0 = if n + 1 = ws.length then (BE ((rows.set w.index.toNat ⟨w.val, c, 0⟩).map (freeW 4)), 0) else (BA (rows.set w.index.toNat ⟨w.val, c, 0⟩) ws (n + 1) c, 0) := by
  have hn := get_lt hi
  obtain ⟨hM, hS⟩ := ba_may (n := n) hr hrm hw ht hc (by omega)
  have hs : (BA rows ws n c).sess[0]? = some (BAs ws n c) := rfl
  have hl := left_on hs hM rfl rfl hi
  have h0 := ht w (List.mem_of_getElem? hi)
  have h1 := (writes_may hw).1 w (List.mem_of_getElem? hi)
  simp only [write1, Bool.and_eq_true] at h1
  have hwr : wroteM (BA rows ws n c) 0 (BAs ws n c) w = BA (rows.set w.index.toNat ⟨w.val, c, 0⟩) ws (n + 1) c := by
    simp only [wroteM, setS, setW, h0]
    rfl
  have hmay := wrote_may hs hM hS rfl hn h1.2
  have hb : backM (BA rows ws n c) 0 = if (n : Int) + 1 = ws.length then endM (wroteM (BA rows ws n c) 0 (BAs ws n c) w) 0 1 0 else (wroteM (BA rows ws n c) 0 (BAs ws n c) w, 0) := by
    have hl' : leftM (BA rows ws n c) 0 4 = some (BAs ws n c, w) := hl
    unfold backM
    rw [hl']
    rfl
  have hmay' : MayP (wroteM (BA rows ws n c) 0 (BAs ws n c) w) := hmay
  rw [hb]
  rw [hwr] at hmay' ⊢
  by_cases hlast : n + 1 = ws.length
  · rw [if_pos hlast, if_pos (by omega)]
    have hs2 : (BA (rows.set w.index.toNat ⟨w.val, c, 0⟩) ws (n + 1) c).sess[0]? = some (BAs ws (n + 1) c) := rfl
    have := end_at (k := 0) hs2 hmay' (r := 1) (t := 0) (by decide) (by decide)
    rw [show ((0 : Nat) : Int) = 0 from rfl] at this
    rw [this]
    rfl
  · rw [if_neg hlast, if_neg (by omega)]
end Ve
