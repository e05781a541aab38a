/- The machines of ParkForms, FetchForms. -/
import Derived.Test.YtapgmjgledahiaaGreatVeP
import Derived.Test.YtapgmjgledahiaaGreatAr
set_option linter.all false
set_option linter.unusedSectionVars false
namespace Ve
open Go
def MPk (ceil st pc : Int) : TMach := ⟨⟨[⟨5, 0, 0⟩, ⟨6, 0, 0⟩], [⟨7, 0, 0⟩], [], [⟨9, 0, 0⟩]⟩, ⟨0, 0, 0, 0⟩, ceil, [⟨3, 0, 3, [⟨2, 0, 0, 1⟩, ⟨5, 0, 0, 0⟩], st, pc, ⟨6, 0, 0, 0⟩, [⟨0, 1, 0⟩], [], 0, 0, 0, 0, 0⟩, ⟨5, 1, 1, [⟨2, 0, 0, 1⟩, ⟨3, 0, 1, 0⟩], 0, 0, ⟨0, 0, 0, 0⟩, [], [], 0, 0, 0, 0, 0⟩], [⟨3, 0, 0, 6⟩, ⟨3, 0, 4, 1⟩]⟩
theorem mpk_sm (ceil st pc : Int) : SmM (MPk ceil st pc) := by
  refine ⟨by simp [MPk], by simp [MPk], by simp [MPk], by simp [MPk], by simp [MPk], by simp [MPk], ?_⟩
  intro s hs
  simp only [MPk, List.mem_cons, List.mem_nil_iff, or_false] at hs
  rcases hs with rfl | rfl <;> exact ⟨by simp, by simp, by simp⟩
def MFt (ceil st pc : Int) (p : List TInst) : TMach := ⟨⟨[⟨5, 0, 0⟩, ⟨6, 0, 0⟩], [⟨7, 0, 0⟩], [], [⟨9, 0, 0⟩]⟩, ⟨0, 0, 0, 0⟩, ceil, [⟨3, 0, 3, p, st, pc, ⟨0, 0, 0, 0⟩, [], [], 0, 0, 0, 0, 0⟩, ⟨5, 1, 1, [⟨2, 0, 0, 1⟩, ⟨3, 0, 1, 0⟩], 0, 0, ⟨0, 0, 0, 0⟩, [], [], 0, 0, 0, 0, 0⟩], []⟩
theorem mft_sm (ceil st pc : Int) (p : List TInst) (hp : p.length ≤ 16) : SmM (MFt ceil st pc p) := by
  refine ⟨by simp [MFt], by simp [MFt], by simp [MFt], by simp [MFt], by simp [MFt], by simp [MFt], ?_⟩
  intro s hs
  simp only [MFt, List.mem_cons, List.mem_nil_iff, or_false] at hs
  rcases hs with rfl | rfl
  · exact ⟨by simp only; omega, by simp, by simp⟩
  · exact ⟨by simp, by simp, by simp⟩
theorem here_no {m : TMach} {a : Int} (h : a < 0 ∨ 2 ≤ a) (hl : m.sess.length = 2) : hereM m a = false := here_at (by rw [hl]; omega)
theorem park_here {m : TMach} {a : Int} (h : hereM m a = false) : parkM m a = (zeroM, 2200) := by unfold parkM; rw [cur_no h, curS_no h]
theorem fetch_here {m : TMach} {a : Int} (h : hereM m a = false) : fetchM m a = (zeroM, 1500) := by unfold fetchM; rw [cur_no h]
theorem mpk_ceil {D st pc a : Int} (h : 1 ≤ D) : hereM (MPk (-D) st pc) a = false := here_ceil (m := MPk 0 st pc) (neg_no h)
theorem mft_ceil {D st pc a : Int} {p : List TInst} (h : 1 ≤ D) : hereM (MFt (65535 + D) st pc p) a = false := here_ceil (m := MFt 0 st pc p) (by
  cases h' : inR (65535 + D) 65535 with
  | false => rfl
  | true => rw [inR_le] at h'; omega)
end Ve
