/- The machines of BackHidden. -/
import Derived.Test.YtcipiajnabgkgaaGreatPL4
set_option linter.all false
set_option linter.unusedSectionVars false
namespace Ve
open Go
set_option maxRecDepth 100000
def HM0 (v : Int) : TMach := ⟨⟨[⟨5, 0, 0⟩, ⟨6, 0, 0⟩], [⟨7, 0, 0⟩], [], [⟨9, 0, 0⟩]⟩, ⟨0, 0, 0, 0⟩, 9, [⟨3, 0, 3, [⟨0, 0, v, 0⟩, ⟨3, 0, 0, 0⟩, ⟨3, 0, 0, 1⟩], 0, 0, ⟨0, 0, 0, 0⟩, [], [], 0, 0, 0, 0, 0⟩, ⟨5, 1, 1, [⟨2, 0, 0, 1⟩, ⟨3, 0, 1, 0⟩], 0, 0, ⟨0, 0, 0, 0⟩, [], [], 0, 0, 0, 0, 0⟩], []⟩
def HM1 (v : Int) : TMach := ⟨⟨[⟨5, 0, 0⟩, ⟨6, 0, 0⟩], [⟨7, 0, 0⟩], [], [⟨9, 0, 0⟩]⟩, ⟨0, 0, 0, 0⟩, 9, [⟨3, 0, 3, [⟨0, 0, v, 0⟩, ⟨3, 0, 0, 0⟩, ⟨3, 0, 0, 1⟩], 0, 1, ⟨v, 0, 0, 0⟩, [], [], 0, 0, 0, 0, 0⟩, ⟨5, 1, 1, [⟨2, 0, 0, 1⟩, ⟨3, 0, 1, 0⟩], 0, 0, ⟨0, 0, 0, 0⟩, [], [], 0, 0, 0, 0, 0⟩], []⟩
def HM2 (v : Int) : TMach := ⟨⟨[⟨5, 0, 0⟩, ⟨6, 0, 0⟩], [⟨7, 0, 0⟩], [], [⟨9, 0, 0⟩]⟩, ⟨0, 0, 0, 0⟩, 9, [⟨3, 0, 3, [⟨0, 0, v, 0⟩, ⟨3, 0, 0, 0⟩, ⟨3, 0, 0, 1⟩], 0, 2, ⟨v, 0, 0, 0⟩, [], [⟨0, 0, v⟩], 0, 0, 0, 0, 0⟩, ⟨5, 1, 1, [⟨2, 0, 0, 1⟩, ⟨3, 0, 1, 0⟩], 0, 0, ⟨0, 0, 0, 0⟩, [], [], 0, 0, 0, 0, 0⟩], [⟨3, 0, 1, v⟩]⟩
def HM3 (v : Int) : TMach := ⟨⟨[⟨5, 0, 0⟩, ⟨6, 0, 0⟩], [⟨7, 0, 0⟩], [], [⟨9, 0, 0⟩]⟩, ⟨0, 0, 0, 0⟩, 9, [⟨3, 0, 3, [⟨0, 0, v, 0⟩, ⟨3, 0, 0, 0⟩, ⟨3, 0, 0, 1⟩], 0, 3, ⟨v, 0, 0, 0⟩, [], [⟨0, 0, v⟩, ⟨0, 1, v⟩], 0, 0, 0, 0, 0⟩, ⟨5, 1, 1, [⟨2, 0, 0, 1⟩, ⟨3, 0, 1, 0⟩], 0, 0, ⟨0, 0, 0, 0⟩, [], [], 0, 0, 0, 0, 0⟩], [⟨3, 0, 1, v⟩, ⟨3, 0, 1, v⟩]⟩
def HM4 (v : Int) : TMach := ⟨⟨[⟨5, 0, 0⟩, ⟨6, 0, 0⟩], [⟨7, 0, 0⟩], [], [⟨9, 0, 0⟩]⟩, ⟨0, 0, 0, 0⟩, 9, [⟨3, 0, 3, [⟨0, 0, v, 0⟩, ⟨3, 0, 0, 0⟩, ⟨3, 0, 0, 1⟩], 1, 3, ⟨v, 0, 0, 0⟩, [], [⟨0, 0, v⟩, ⟨0, 1, v⟩], 0, 0, 0, 0, 0⟩, ⟨5, 1, 1, [⟨2, 0, 0, 1⟩, ⟨3, 0, 1, 0⟩], 0, 0, ⟨0, 0, 0, 0⟩, [], [], 0, 0, 0, 0, 0⟩], [⟨3, 0, 1, v⟩, ⟨3, 0, 1, v⟩]⟩
def HM5 (v : Int) : TMach := ⟨⟨[⟨5, 0, 4⟩, ⟨6, 0, 0⟩], [⟨7, 0, 0⟩], [], [⟨9, 0, 0⟩]⟩, ⟨0, 0, 0, 0⟩, 9, [⟨3, 0, 3, [⟨0, 0, v, 0⟩, ⟨3, 0, 0, 0⟩, ⟨3, 0, 0, 1⟩], 1, 3, ⟨v, 0, 0, 0⟩, [], [⟨0, 0, v⟩, ⟨0, 1, v⟩], 1, 0, 0, 0, 0⟩, ⟨5, 1, 1, [⟨2, 0, 0, 1⟩, ⟨3, 0, 1, 0⟩], 0, 0, ⟨0, 0, 0, 0⟩, [], [], 0, 0, 0, 0, 0⟩], [⟨3, 0, 1, v⟩, ⟨3, 0, 1, v⟩]⟩
def HM6 (v : Int) : TMach := ⟨⟨[⟨5, 0, 4⟩, ⟨6, 0, 4⟩], [⟨7, 0, 0⟩], [], [⟨9, 0, 0⟩]⟩, ⟨0, 0, 0, 0⟩, 9, [⟨3, 0, 3, [⟨0, 0, v, 0⟩, ⟨3, 0, 0, 0⟩, ⟨3, 0, 0, 1⟩], 2, 3, ⟨v, 0, 0, 0⟩, [], [⟨0, 0, v⟩, ⟨0, 1, v⟩], 2, 0, 0, 0, 0⟩, ⟨5, 1, 1, [⟨2, 0, 0, 1⟩, ⟨3, 0, 1, 0⟩], 0, 0, ⟨0, 0, 0, 0⟩, [], [], 0, 0, 0, 0, 0⟩], [⟨3, 0, 1, v⟩, ⟨3, 0, 1, v⟩]⟩
def HM7 (v : Int) : TMach := ⟨⟨[⟨5, 0, 4⟩, ⟨6, 0, 4⟩], [⟨7, 0, 0⟩], [], [⟨9, 0, 0⟩]⟩, ⟨1, 0, 0, 0⟩, 9, [⟨3, 0, 3, [⟨0, 0, v, 0⟩, ⟨3, 0, 0, 0⟩, ⟨3, 0, 0, 1⟩], 3, 3, ⟨v, 0, 0, 0⟩, [], [⟨0, 0, v⟩, ⟨0, 1, v⟩], 2, 1, 0, 0, 0⟩, ⟨5, 1, 1, [⟨2, 0, 0, 1⟩, ⟨3, 0, 1, 0⟩], 0, 0, ⟨0, 0, 0, 0⟩, [], [], 0, 0, 0, 0, 0⟩], [⟨3, 0, 1, v⟩, ⟨3, 0, 1, v⟩]⟩
def HM8 (v : Int) : TMach := ⟨⟨[⟨5, 0, 4⟩, ⟨6, 0, 4⟩], [⟨7, 0, 0⟩], [], [⟨9, 0, 0⟩]⟩, ⟨1, 0, 0, 0⟩, 9, [⟨3, 0, 3, [⟨0, 0, v, 0⟩, ⟨3, 0, 0, 0⟩, ⟨3, 0, 0, 1⟩], 4, 3, ⟨v, 0, 0, 0⟩, [], [⟨0, 0, v⟩, ⟨0, 1, v⟩], 0, 1, 0, 0, 0⟩, ⟨5, 1, 1, [⟨2, 0, 0, 1⟩, ⟨3, 0, 1, 0⟩], 0, 0, ⟨0, 0, 0, 0⟩, [], [], 0, 0, 0, 0, 0⟩], [⟨3, 0, 1, v⟩, ⟨3, 0, 1, v⟩]⟩
def HM9 (v : Int) : TMach := ⟨⟨[⟨v, 1, 0⟩, ⟨6, 0, 4⟩], [⟨7, 0, 0⟩], [], [⟨9, 0, 0⟩]⟩, ⟨1, 0, 0, 0⟩, 9, [⟨3, 0, 3, [⟨0, 0, v, 0⟩, ⟨3, 0, 0, 0⟩, ⟨3, 0, 0, 1⟩], 4, 3, ⟨v, 0, 0, 0⟩, [], [⟨0, 0, v⟩, ⟨0, 1, v⟩], 1, 1, 0, 0, 0⟩, ⟨5, 1, 1, [⟨2, 0, 0, 1⟩, ⟨3, 0, 1, 0⟩], 0, 0, ⟨0, 0, 0, 0⟩, [], [], 0, 0, 0, 0, 0⟩], [⟨3, 0, 1, v⟩, ⟨3, 0, 1, v⟩]⟩
def HM10 (v : Int) : TMach := ⟨⟨[⟨v, 1, 0⟩, ⟨v, 1, 0⟩], [⟨7, 0, 0⟩], [], [⟨9, 0, 0⟩]⟩, ⟨1, 0, 0, 0⟩, 9, [⟨3, 0, 3, [⟨0, 0, v, 0⟩, ⟨3, 0, 0, 0⟩, ⟨3, 0, 0, 1⟩], 6, 3, ⟨v, 0, 0, 0⟩, [], [], 0, 0, 0, 1, 0⟩, ⟨5, 1, 1, [⟨2, 0, 0, 1⟩, ⟨3, 0, 1, 0⟩], 0, 0, ⟨0, 0, 0, 0⟩, [], [], 0, 0, 0, 0, 0⟩], [⟨3, 0, 1, v⟩, ⟨3, 0, 1, v⟩, ⟨3, 0, 6, 1⟩]⟩
def HM11 (v : Int) : TMach := ⟨⟨[⟨v, 1, 0⟩, ⟨6, 0, 4⟩], [⟨7, 0, 0⟩], [], [⟨9, 0, 0⟩]⟩, ⟨1, 0, 0, 0⟩, 9, [⟨3, 0, 3, [⟨0, 0, v, 0⟩, ⟨3, 0, 0, 0⟩, ⟨3, 0, 0, 1⟩], 4, 3, ⟨v, 0, 0, 0⟩, [], [⟨0, 0, v⟩, ⟨0, 1, v⟩], 1, 1, 0, 0, 0⟩, ⟨5, 1, 1, [⟨2, 0, 0, 1⟩, ⟨3, 0, 1, 0⟩], 0, 0, ⟨0, 0, 0, 0⟩, [], [], 0, 0, 1, 0, 0⟩], [⟨3, 0, 1, v⟩, ⟨3, 0, 1, v⟩, ⟨5, 1, 3, 1⟩]⟩
def HM12 (v : Int) : TMach := ⟨⟨[⟨v, 1, 0⟩, ⟨v, 1, 0⟩], [⟨7, 0, 0⟩], [], [⟨9, 0, 0⟩]⟩, ⟨1, 0, 0, 0⟩, 9, [⟨3, 0, 3, [⟨0, 0, v, 0⟩, ⟨3, 0, 0, 0⟩, ⟨3, 0, 0, 1⟩], 6, 3, ⟨v, 0, 0, 0⟩, [], [], 0, 0, 0, 1, 0⟩, ⟨5, 1, 1, [⟨2, 0, 0, 1⟩, ⟨3, 0, 1, 0⟩], 0, 1, ⟨v, 0, 0, 0⟩, [⟨0, 1, 1⟩], [], 0, 0, 0, 0, 0⟩], [⟨3, 0, 1, v⟩, ⟨3, 0, 1, v⟩, ⟨3, 0, 6, 1⟩, ⟨5, 1, 0, v⟩]⟩
theorem hst0 : ∀ v : Fin 256, stepM (HM0 ((v.val : Nat) : Int)) 0 = (HM1 ((v.val : Nat) : Int), 0) := by decide +kernel
theorem hst1 : ∀ v : Fin 256, stepM (HM1 ((v.val : Nat) : Int)) 0 = (HM2 ((v.val : Nat) : Int), 0) := by decide +kernel
theorem hst2 : ∀ v : Fin 256, stepM (HM2 ((v.val : Nat) : Int)) 0 = (HM3 ((v.val : Nat) : Int), 0) := by decide +kernel
theorem hst3 : ∀ v : Fin 256, stepM (HM3 ((v.val : Nat) : Int)) 0 = (HM4 ((v.val : Nat) : Int), 0) := by decide +kernel
theorem hst4 : ∀ v : Fin 256, stepM (HM4 ((v.val : Nat) : Int)) 0 = (HM5 ((v.val : Nat) : Int), 0) := by decide +kernel
theorem hst5 : ∀ v : Fin 256, stepM (HM5 ((v.val : Nat) : Int)) 0 = (HM6 ((v.val : Nat) : Int), 0) := by decide +kernel
theorem hst6 : ∀ v : Fin 256, stepM (HM6 ((v.val : Nat) : Int)) 0 = (HM7 ((v.val : Nat) : Int), 0) := by decide +kernel
theorem hst7 : ∀ v : Fin 256, stepM (HM7 ((v.val : Nat) : Int)) 0 = (HM8 ((v.val : Nat) : Int), 0) := by decide +kernel
theorem hbk8 : ∀ v : Fin 256, backM (HM8 ((v.val : Nat) : Int)) 0 = (HM9 ((v.val : Nat) : Int), 0) := by decide +kernel
theorem hbk9 : ∀ v : Fin 256, backM (HM9 ((v.val : Nat) : Int)) 0 = (HM10 ((v.val : Nat) : Int), 0) := by decide +kernel
theorem hst9 : ∀ v : Fin 256, stepM (HM9 ((v.val : Nat) : Int)) 1 = (HM11 ((v.val : Nat) : Int), 0) := by decide +kernel
theorem hst10 : ∀ v : Fin 256, stepM (HM10 ((v.val : Nat) : Int)) 1 = (HM12 ((v.val : Nat) : Int), 0) := by decide +kernel
theorem hsm0 (v : Int) : SmM (HM0 v) := by
  refine ⟨by simp [HM0], by simp [HM0], by simp [HM0], by simp [HM0], by simp [HM0], by simp [HM0], ?_⟩
  intro s hs
  simp only [HM0, List.mem_cons, List.mem_nil_iff, or_false] at hs
  rcases hs with rfl | rfl <;> exact ⟨by simp, by simp, by simp⟩
theorem hsm1 (v : Int) : SmM (HM1 v) := by
  refine ⟨by simp [HM1], by simp [HM1], by simp [HM1], by simp [HM1], by simp [HM1], by simp [HM1], ?_⟩
  intro s hs
  simp only [HM1, List.mem_cons, List.mem_nil_iff, or_false] at hs
  rcases hs with rfl | rfl <;> exact ⟨by simp, by simp, by simp⟩
theorem hsm2 (v : Int) : SmM (HM2 v) := by
  refine ⟨by simp [HM2], by simp [HM2], by simp [HM2], by simp [HM2], by simp [HM2], by simp [HM2], ?_⟩
  intro s hs
  simp only [HM2, List.mem_cons, List.mem_nil_iff, or_false] at hs
  rcases hs with rfl | rfl <;> exact ⟨by simp, by simp, by simp⟩
theorem hsm3 (v : Int) : SmM (HM3 v) := by
  refine ⟨by simp [HM3], by simp [HM3], by simp [HM3], by simp [HM3], by simp [HM3], by simp [HM3], ?_⟩
  intro s hs
  simp only [HM3, List.mem_cons, List.mem_nil_iff, or_false] at hs
  rcases hs with rfl | rfl <;> exact ⟨by simp, by simp, by simp⟩
theorem hsm4 (v : Int) : SmM (HM4 v) := by
  refine ⟨by simp [HM4], by simp [HM4], by simp [HM4], by simp [HM4], by simp [HM4], by simp [HM4], ?_⟩
  intro s hs
  simp only [HM4, List.mem_cons, List.mem_nil_iff, or_false] at hs
  rcases hs with rfl | rfl <;> exact ⟨by simp, by simp, by simp⟩
theorem hsm5 (v : Int) : SmM (HM5 v) := by
  refine ⟨by simp [HM5], by simp [HM5], by simp [HM5], by simp [HM5], by simp [HM5], by simp [HM5], ?_⟩
  intro s hs
  simp only [HM5, List.mem_cons, List.mem_nil_iff, or_false] at hs
  rcases hs with rfl | rfl <;> exact ⟨by simp, by simp, by simp⟩
theorem hsm6 (v : Int) : SmM (HM6 v) := by
  refine ⟨by simp [HM6], by simp [HM6], by simp [HM6], by simp [HM6], by simp [HM6], by simp [HM6], ?_⟩
  intro s hs
  simp only [HM6, List.mem_cons, List.mem_nil_iff, or_false] at hs
  rcases hs with rfl | rfl <;> exact ⟨by simp, by simp, by simp⟩
theorem hsm7 (v : Int) : SmM (HM7 v) := by
  refine ⟨by simp [HM7], by simp [HM7], by simp [HM7], by simp [HM7], by simp [HM7], by simp [HM7], ?_⟩
  intro s hs
  simp only [HM7, List.mem_cons, List.mem_nil_iff, or_false] at hs
  rcases hs with rfl | rfl <;> exact ⟨by simp, by simp, by simp⟩
theorem hsm8 (v : Int) : SmM (HM8 v) := by
  refine ⟨by simp [HM8], by simp [HM8], by simp [HM8], by simp [HM8], by simp [HM8], by simp [HM8], ?_⟩
  intro s hs
  simp only [HM8, List.mem_cons, List.mem_nil_iff, or_false] at hs
  rcases hs with rfl | rfl <;> exact ⟨by simp, by simp, by simp⟩
theorem hsm9 (v : Int) : SmM (HM9 v) := by
  refine ⟨by simp [HM9], by simp [HM9], by simp [HM9], by simp [HM9], by simp [HM9], by simp [HM9], ?_⟩
  intro s hs
  simp only [HM9, List.mem_cons, List.mem_nil_iff, or_false] at hs
  rcases hs with rfl | rfl <;> exact ⟨by simp, by simp, by simp⟩
theorem hsm10 (v : Int) : SmM (HM10 v) := by
  refine ⟨by simp [HM10], by simp [HM10], by simp [HM10], by simp [HM10], by simp [HM10], by simp [HM10], ?_⟩
  intro s hs
  simp only [HM10, List.mem_cons, List.mem_nil_iff, or_false] at hs
  rcases hs with rfl | rfl <;> exact ⟨by simp, by simp, by simp⟩
theorem hsm11 (v : Int) : SmM (HM11 v) := by
  refine ⟨by simp [HM11], by simp [HM11], by simp [HM11], by simp [HM11], by simp [HM11], by simp [HM11], ?_⟩
  intro s hs
  simp only [HM11, List.mem_cons, List.mem_nil_iff, or_false] at hs
  rcases hs with rfl | rfl <;> exact ⟨by simp, by simp, by simp⟩
theorem hsm12 (v : Int) : SmM (HM12 v) := by
  refine ⟨by simp [HM12], by simp [HM12], by simp [HM12], by simp [HM12], by simp [HM12], by simp [HM12], ?_⟩
  intro s hs
  simp only [HM12, List.mem_cons, List.mem_nil_iff, or_false] at hs
  rcases hs with rfl | rfl <;> exact ⟨by simp, by simp, by simp⟩
end Ve
