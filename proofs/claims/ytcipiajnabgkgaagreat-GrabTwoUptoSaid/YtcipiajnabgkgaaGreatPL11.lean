/- The machines of GrabTwo. -/
import Derived.Test.YtcipiajnabgkgaaGreatPL4
import Derived.Test.YtcipiajnabgkgaaGreatMN
set_option linter.all false
set_option linter.unusedSectionVars false
namespace Ve
open Go
set_option maxRecDepth 100000
def GM0 (v : Int) : TMach := ⟨⟨[⟨1, 0, 0⟩], [], [], []⟩, ⟨0, 0, 0, 0⟩, 9, [⟨3, 0, 0, [⟨0, 0, v, 0⟩, ⟨3, 0, 0, 0⟩], 0, 0, ⟨0, 0, 0, 0⟩, [], [], 0, 0, 0, 0, 0⟩, ⟨5, 0, 0, [⟨3, 0, 0, 0⟩], 0, 0, ⟨0, 0, 0, 0⟩, [], [], 0, 0, 0, 0, 0⟩], []⟩
def GM1 (v : Int) : TMach := ⟨⟨[⟨1, 0, 0⟩], [], [], []⟩, ⟨0, 0, 0, 0⟩, 9, [⟨3, 0, 0, [⟨0, 0, v, 0⟩, ⟨3, 0, 0, 0⟩], 0, 1, ⟨v, 0, 0, 0⟩, [], [], 0, 0, 0, 0, 0⟩, ⟨5, 0, 0, [⟨3, 0, 0, 0⟩], 0, 0, ⟨0, 0, 0, 0⟩, [], [], 0, 0, 0, 0, 0⟩], []⟩
def GM2 (v : Int) : TMach := ⟨⟨[⟨1, 0, 0⟩], [], [], []⟩, ⟨0, 0, 0, 0⟩, 9, [⟨3, 0, 0, [⟨0, 0, v, 0⟩, ⟨3, 0, 0, 0⟩], 0, 2, ⟨v, 0, 0, 0⟩, [], [⟨0, 0, v⟩], 0, 0, 0, 0, 0⟩, ⟨5, 0, 0, [⟨3, 0, 0, 0⟩], 0, 0, ⟨0, 0, 0, 0⟩, [], [], 0, 0, 0, 0, 0⟩], [⟨3, 0, 1, v⟩]⟩
def GM3 (v : Int) : TMach := ⟨⟨[⟨1, 0, 0⟩], [], [], []⟩, ⟨0, 0, 0, 0⟩, 9, [⟨3, 0, 0, [⟨0, 0, v, 0⟩, ⟨3, 0, 0, 0⟩], 1, 2, ⟨v, 0, 0, 0⟩, [], [⟨0, 0, v⟩], 0, 0, 0, 0, 0⟩, ⟨5, 0, 0, [⟨3, 0, 0, 0⟩], 0, 0, ⟨0, 0, 0, 0⟩, [], [], 0, 0, 0, 0, 0⟩], [⟨3, 0, 1, v⟩]⟩
def GM4 (v : Int) : TMach := ⟨⟨[⟨1, 0, 0⟩], [], [], []⟩, ⟨0, 0, 0, 0⟩, 9, [⟨3, 0, 0, [⟨0, 0, v, 0⟩, ⟨3, 0, 0, 0⟩], 1, 2, ⟨v, 0, 0, 0⟩, [], [⟨0, 0, v⟩], 0, 0, 0, 0, 0⟩, ⟨5, 0, 0, [⟨3, 0, 0, 0⟩], 0, 1, ⟨0, 0, 0, 0⟩, [], [⟨0, 0, 0⟩], 0, 0, 0, 0, 0⟩], [⟨3, 0, 1, v⟩, ⟨5, 0, 1, 0⟩]⟩
def GM5 (v : Int) : TMach := ⟨⟨[⟨1, 0, 0⟩], [], [], []⟩, ⟨0, 0, 0, 0⟩, 9, [⟨3, 0, 0, [⟨0, 0, v, 0⟩, ⟨3, 0, 0, 0⟩], 1, 2, ⟨v, 0, 0, 0⟩, [], [⟨0, 0, v⟩], 0, 0, 0, 0, 0⟩, ⟨5, 0, 0, [⟨3, 0, 0, 0⟩], 1, 1, ⟨0, 0, 0, 0⟩, [], [⟨0, 0, 0⟩], 0, 0, 0, 0, 0⟩], [⟨3, 0, 1, v⟩, ⟨5, 0, 1, 0⟩]⟩
def GM6 (v : Int) : TMach := ⟨⟨[⟨1, 0, 4⟩], [], [], []⟩, ⟨0, 0, 0, 0⟩, 9, [⟨3, 0, 0, [⟨0, 0, v, 0⟩, ⟨3, 0, 0, 0⟩], 2, 2, ⟨v, 0, 0, 0⟩, [], [⟨0, 0, v⟩], 1, 0, 0, 0, 0⟩, ⟨5, 0, 0, [⟨3, 0, 0, 0⟩], 1, 1, ⟨0, 0, 0, 0⟩, [], [⟨0, 0, 0⟩], 0, 0, 0, 0, 0⟩], [⟨3, 0, 1, v⟩, ⟨5, 0, 1, 0⟩]⟩
def GM7 (v : Int) : TMach := ⟨⟨[⟨1, 0, 4⟩], [], [], []⟩, ⟨0, 0, 0, 0⟩, 9, [⟨3, 0, 0, [⟨0, 0, v, 0⟩, ⟨3, 0, 0, 0⟩], 2, 2, ⟨v, 0, 0, 0⟩, [], [⟨0, 0, v⟩], 1, 0, 0, 0, 0⟩, ⟨5, 0, 0, [⟨3, 0, 0, 0⟩], 0, 0, ⟨0, 0, 0, 0⟩, [], [], 0, 0, 1, 0, 0⟩], [⟨3, 0, 1, v⟩, ⟨5, 0, 1, 0⟩, ⟨5, 0, 3, 1⟩]⟩
def GM8 (v : Int) : TMach := ⟨⟨[⟨1, 0, 6⟩], [], [], []⟩, ⟨0, 0, 0, 0⟩, 9, [⟨3, 0, 0, [⟨0, 0, v, 0⟩, ⟨3, 0, 0, 0⟩], 1, 2, ⟨v, 0, 0, 0⟩, [], [⟨0, 0, v⟩], 0, 0, 0, 0, 0⟩, ⟨5, 0, 0, [⟨3, 0, 0, 0⟩], 2, 1, ⟨0, 0, 0, 0⟩, [], [⟨0, 0, 0⟩], 1, 0, 0, 0, 0⟩], [⟨3, 0, 1, v⟩, ⟨5, 0, 1, 0⟩]⟩
def GM9 (v : Int) : TMach := ⟨⟨[⟨1, 0, 6⟩], [], [], []⟩, ⟨0, 0, 0, 0⟩, 9, [⟨3, 0, 0, [⟨0, 0, v, 0⟩, ⟨3, 0, 0, 0⟩], 0, 0, ⟨0, 0, 0, 0⟩, [], [], 0, 0, 1, 0, 0⟩, ⟨5, 0, 0, [⟨3, 0, 0, 0⟩], 2, 1, ⟨0, 0, 0, 0⟩, [], [⟨0, 0, 0⟩], 1, 0, 0, 0, 0⟩], [⟨3, 0, 1, v⟩, ⟨5, 0, 1, 0⟩, ⟨3, 0, 3, 1⟩]⟩
theorem gsm0 (v : Int) : SmM (GM0 v) := by
  refine ⟨by simp [GM0], by simp [GM0], by simp [GM0], by simp [GM0], by simp [GM0], by simp [GM0], ?_⟩
  intro s hs
  simp only [GM0, List.mem_cons, List.mem_nil_iff, or_false] at hs
  rcases hs with rfl | rfl <;> exact ⟨by simp, by simp, by simp⟩
theorem gsm1 (v : Int) : SmM (GM1 v) := by
  refine ⟨by simp [GM1], by simp [GM1], by simp [GM1], by simp [GM1], by simp [GM1], by simp [GM1], ?_⟩
  intro s hs
  simp only [GM1, List.mem_cons, List.mem_nil_iff, or_false] at hs
  rcases hs with rfl | rfl <;> exact ⟨by simp, by simp, by simp⟩
theorem gsm2 (v : Int) : SmM (GM2 v) := by
  refine ⟨by simp [GM2], by simp [GM2], by simp [GM2], by simp [GM2], by simp [GM2], by simp [GM2], ?_⟩
  intro s hs
  simp only [GM2, List.mem_cons, List.mem_nil_iff, or_false] at hs
  rcases hs with rfl | rfl <;> exact ⟨by simp, by simp, by simp⟩
theorem gsm3 (v : Int) : SmM (GM3 v) := by
  refine ⟨by simp [GM3], by simp [GM3], by simp [GM3], by simp [GM3], by simp [GM3], by simp [GM3], ?_⟩
  intro s hs
  simp only [GM3, List.mem_cons, List.mem_nil_iff, or_false] at hs
  rcases hs with rfl | rfl <;> exact ⟨by simp, by simp, by simp⟩
theorem gsm4 (v : Int) : SmM (GM4 v) := by
  refine ⟨by simp [GM4], by simp [GM4], by simp [GM4], by simp [GM4], by simp [GM4], by simp [GM4], ?_⟩
  intro s hs
  simp only [GM4, List.mem_cons, List.mem_nil_iff, or_false] at hs
  rcases hs with rfl | rfl <;> exact ⟨by simp, by simp, by simp⟩
theorem gsm5 (v : Int) : SmM (GM5 v) := by
  refine ⟨by simp [GM5], by simp [GM5], by simp [GM5], by simp [GM5], by simp [GM5], by simp [GM5], ?_⟩
  intro s hs
  simp only [GM5, List.mem_cons, List.mem_nil_iff, or_false] at hs
  rcases hs with rfl | rfl <;> exact ⟨by simp, by simp, by simp⟩
theorem gsm6 (v : Int) : SmM (GM6 v) := by
  refine ⟨by simp [GM6], by simp [GM6], by simp [GM6], by simp [GM6], by simp [GM6], by simp [GM6], ?_⟩
  intro s hs
  simp only [GM6, List.mem_cons, List.mem_nil_iff, or_false] at hs
  rcases hs with rfl | rfl <;> exact ⟨by simp, by simp, by simp⟩
theorem gsm7 (v : Int) : SmM (GM7 v) := by
  refine ⟨by simp [GM7], by simp [GM7], by simp [GM7], by simp [GM7], by simp [GM7], by simp [GM7], ?_⟩
  intro s hs
  simp only [GM7, List.mem_cons, List.mem_nil_iff, or_false] at hs
  rcases hs with rfl | rfl <;> exact ⟨by simp, by simp, by simp⟩
theorem gsm8 (v : Int) : SmM (GM8 v) := by
  refine ⟨by simp [GM8], by simp [GM8], by simp [GM8], by simp [GM8], by simp [GM8], by simp [GM8], ?_⟩
  intro s hs
  simp only [GM8, List.mem_cons, List.mem_nil_iff, or_false] at hs
  rcases hs with rfl | rfl <;> exact ⟨by simp, by simp, by simp⟩
theorem gsm9 (v : Int) : SmM (GM9 v) := by
  refine ⟨by simp [GM9], by simp [GM9], by simp [GM9], by simp [GM9], by simp [GM9], by simp [GM9], ?_⟩
  intro s hs
  simp only [GM9, List.mem_cons, List.mem_nil_iff, or_false] at hs
  rcases hs with rfl | rfl <;> exact ⟨by simp, by simp, by simp⟩
def GSc (v : Int) : TScript := ⟨⟨[1], [], [], []⟩, 9, [⟨3, 0, 0, [⟨0, 0, v, 0⟩, ⟨3, 0, 0, 0⟩]⟩, ⟨5, 0, 0, [⟨3, 0, 0, 0⟩]⟩], []⟩
theorem gsc (v : Int) : SmSc (GSc v) := by
  refine ⟨by simp [GSc], by simp [GSc], by simp [GSc], by simp [GSc], by simp [GSc], by simp [GSc], ?_⟩
  intro s hs
  simp only [GSc, List.mem_cons, List.mem_nil_iff, or_false] at hs
  rcases hs with rfl | rfl <;> simp
theorem gn : ∀ v : Fin 256, newM (GSc ((v.val : Nat) : Int)) = (GM0 ((v.val : Nat) : Int), 0) := by decide +kernel
theorem g0_1 : ∀ v : Fin 256, stepM (GM0 ((v.val : Nat) : Int)) 0 = (GM1 ((v.val : Nat) : Int), 0) := by decide +kernel
theorem g1_2 : ∀ v : Fin 256, stepM (GM1 ((v.val : Nat) : Int)) 0 = (GM2 ((v.val : Nat) : Int), 0) := by decide +kernel
theorem g2_3 : ∀ v : Fin 256, stepM (GM2 ((v.val : Nat) : Int)) 0 = (GM3 ((v.val : Nat) : Int), 0) := by decide +kernel
theorem g3_4 : ∀ v : Fin 256, stepM (GM3 ((v.val : Nat) : Int)) 1 = (GM4 ((v.val : Nat) : Int), 0) := by decide +kernel
theorem g4_5 : ∀ v : Fin 256, stepM (GM4 ((v.val : Nat) : Int)) 1 = (GM5 ((v.val : Nat) : Int), 0) := by decide +kernel
theorem g5_6 : ∀ v : Fin 256, grabM (GM5 ((v.val : Nat) : Int)) 0 = (GM6 ((v.val : Nat) : Int), 0) := by decide +kernel
theorem g6_7 : ∀ v : Fin 256, grabM (GM6 ((v.val : Nat) : Int)) 1 = (GM7 ((v.val : Nat) : Int), 0) := by decide +kernel
theorem g5_8 : ∀ v : Fin 256, grabM (GM5 ((v.val : Nat) : Int)) 1 = (GM8 ((v.val : Nat) : Int), 0) := by decide +kernel
theorem g8_9 : ∀ v : Fin 256, grabM (GM8 ((v.val : Nat) : Int)) 0 = (GM9 ((v.val : Nat) : Int), 0) := by decide +kernel
end Ve
