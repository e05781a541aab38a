/- The machine of which a session reads level 3. -/
import Derived.Test.YtjllmdplakoanaaGreatPL9
import Derived.Test.YtjllmdplakoanaaGreatPLb
import Derived.Test.YtjllmdplakoanaaGreatPL12
set_option linter.all false
set_option linter.unusedSectionVars false
namespace Ve
open Go
def MHg (ceil st pc : Int) (x : TInst) : TMach := ⟨⟨[⟨5, 0, 0⟩, ⟨6, 0, 0⟩], [⟨7, 0, 0⟩], [], [⟨9, 0, 0⟩]⟩, ⟨0, 0, 0, 0⟩, ceil, [⟨3, 0, 3, [⟨2, 0, 0, 0⟩, ⟨1, 0, 0, 0⟩, ⟨3, 0, 0, 0⟩], 0, 0, ⟨0, 0, 0, 0⟩, [], [], 0, 0, 0, 0, 0⟩, ⟨5, 1, 3, [x], st, pc, ⟨0, 0, 0, 0⟩, [], [], 0, 0, 0, 0, 0⟩], []⟩
theorem mh_sm (ceil st pc : Int) (x : TInst) : SmM (MHg ceil st pc x) := by
  refine ⟨by simp [MHg], by simp [MHg], by simp [MHg], by simp [MHg], by simp [MHg], by simp [MHg], ?_⟩
  intro s hs
  simp only [MHg, List.mem_cons, List.mem_nil_iff, or_false] at hs
  rcases hs with rfl | rfl <;> exact ⟨by simp, by simp, by simp⟩
theorem mb_sm : SmM MB := by
  refine ⟨by decide, by decide, by decide, by decide, by decide, by decide, ?_⟩
  intro s hs
  simp only [MB, List.mem_cons, List.mem_nil_iff, or_false] at hs
  rcases hs with rfl | rfl <;> exact ⟨by decide, by decide, by decide⟩
abbrev NoR (m : TMach) (a : Int) : Prop := curI m a = none ∨ ∃ s x, curI m a = some (s, x) ∧ ¬ x.code = 2
theorem mh_at {c st pc a : Int} {x : TInst} (h : a < 0 ∨ 2 ≤ a) : NoR (MHg c st pc x) a := .inl (cur_no (by
  simp only [hereM, Bool.and_eq_false_iff, decide_eq_false_iff_not, MHg, List.length_cons, List.length_nil]
  rcases h with h | h
  · exact .inl (.inr (by omega))
  · exact .inr (by simp; omega)))
theorem mh_ceil {D st pc a : Int} {x : TInst} (h : 1 ≤ D) : NoR (MHg (-D) st pc x) a := .inl (cur_no (by simp only [hereM, mayM, MHg, neg_no h, Bool.and_false, Bool.false_and]))
theorem mh_step {c st pc : Int} {x : TInst} (h : st ≠ 0) : NoR (MHg c st pc x) 1 := by
  left
  unfold curI
  split
  · have : (MHg c st pc x).sess[(1 : Int).toNat]? = some ⟨5, 1, 3, [x], st, pc, ⟨0, 0, 0, 0⟩, [], [], 0, 0, 0, 0, 0⟩ := rfl
    rw [this]; simp only [h, if_false]
  · rfl
theorem mh_pc {c st : Int} {x : TInst} : NoR (MHg c st 1 x) 1 := by
  left
  unfold curI
  split
  · have : (MHg c st 1 x).sess[(1 : Int).toNat]? = some ⟨5, 1, 3, [x], st, 1, ⟨0, 0, 0, 0⟩, [], [], 0, 0, 0, 0, 0⟩ := rfl
    rw [this]
    by_cases h : st = 0
    · simp [h]
    · simp [h]
  · rfl
theorem mh_code {c st : Int} {x : TInst} (h : ¬ x.code = 2) : NoR (MHg c st 0 x) 1 := by
  unfold NoR curI
  split
  · have : (MHg c st 0 x).sess[(1 : Int).toNat]? = some ⟨5, 1, 3, [x], st, 0, ⟨0, 0, 0, 0⟩, [], [], 0, 0, 0, 0, 0⟩ := rfl
    rw [this]
    by_cases h' : st = 0
    · right; refine ⟨⟨5, 1, 3, [x], st, 0, ⟨0, 0, 0, 0⟩, [], [], 0, 0, 0, 0, 0⟩, x, ?_, h⟩; simp [h']
    · left; simp [h']
  · exact .inl rfl
theorem mb_needs : needsM MB 0 = (false, 0) := by decide +kernel
end Ve
