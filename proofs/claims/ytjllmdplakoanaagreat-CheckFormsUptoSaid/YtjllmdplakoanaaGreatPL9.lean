/- The machine of two sessions, the first of which is at its program's end. -/
import Derived.Test.YtjllmdplakoanaaGreatPL4
set_option linter.all false
set_option linter.unusedSectionVars false
namespace Ve
open Go
def MF (lk c ceil st at_ sp : Int) (r : A4 Int) : TMach := ⟨⟨[⟨5, 0, lk⟩, ⟨6, 0, 0⟩], [⟨7, 0, 0⟩], [], [⟨9, 0, 0⟩]⟩, ⟨c, 0, 0, 0⟩, ceil, [⟨3, 0, 3, [⟨2, 0, 0, 0⟩, ⟨1, 0, 0, 0⟩, ⟨3, 0, 0, 0⟩], st, 3, r, [⟨0, 0, 0⟩], [⟨0, 0, 10⟩], at_, sp, 0, 0, 0⟩, ⟨5, 1, 1, [⟨2, 0, 0, 1⟩, ⟨3, 0, 1, 0⟩], 0, 0, ⟨0, 0, 0, 0⟩, [], [], 0, 0, 0, 0, 0⟩], [⟨3, 0, 0, 5⟩, ⟨3, 0, 1, 10⟩]⟩
theorem mf_sm (lk c ceil st at_ sp : Int) (r : A4 Int) : SmM (MF lk c ceil st at_ sp r) := by
  refine ⟨by simp [MF], by simp [MF], by simp [MF], by simp [MF], by simp [MF], by simp [MF], ?_⟩
  intro s hs
  simp only [MF, List.mem_cons, List.mem_nil_iff, or_false] at hs
  rcases hs with rfl | rfl <;> exact ⟨by simp, by simp, by simp⟩
theorem curS_not {m : TMach} {at_ st : Int} {s : TSess} (hs : m.sess[at_.toNat]? = some s) (h : s.step ≠ st) : curS m at_ st = none := by
  unfold curS
  split
  · rw [hs]; simp only [h, if_false]
  · rfl
theorem neg_no {D c : Int} (h : 1 ≤ D) : inR (-D) c = false := by
  cases h' : inR (-D) c with
  | false => rfl
  | true => rw [inR_le] at h'; omega
theorem here_sess {m : TMach} {at_ : Int} {s : TSess} (hs : s ∈ m.sess) (h : regsMay s.regs = false) : hereM m at_ = false := by
  cases hh : hereM m at_ with
  | false => rfl
  | true =>
    simp only [hereM, Bool.and_eq_true] at hh
    have := (sp _ _).1 (((mayP m).1 hh.1.1).sess s hs)
    rw [this.regs] at h; cases h
/-- machines, sessions that are none -/
theorem mf_at {lk c ceil st at_ sp a ST : Int} {r : A4 Int} (h : a < 0 ∨ 2 ≤ a) : curS (MF lk c ceil st at_ sp r) a ST = none :=
  curS_no (by
    simp only [hereM, Bool.and_eq_false_iff, decide_eq_false_iff_not, MF, List.length_cons, List.length_nil]
    rcases h with h | h
    · exact .inl (.inr (by omega))
    · exact .inr (by simp; omega))
theorem mf_ceil {lk c D st at_ sp a ST : Int} {r : A4 Int} (h : 1 ≤ D) : curS (MF lk c (-D) st at_ sp r) a ST = none :=
  curS_no (by simp only [hereM, mayM, MF, neg_no h, Bool.and_false, Bool.false_and])
theorem mf_step {lk c ceil st at_ sp ST : Int} {r : A4 Int} (h : st ≠ ST) : curS (MF lk c ceil st at_ sp r) 0 ST = none := curS_not (s := ⟨3, 0, 3, [⟨2, 0, 0, 0⟩, ⟨1, 0, 0, 0⟩, ⟨3, 0, 0, 0⟩], st, 3, r, [⟨0, 0, 0⟩], [⟨0, 0, 10⟩], at_, sp, 0, 0, 0⟩) rfl h
theorem mf_one {lk c ceil st at_ sp ST : Int} {r : A4 Int} (h : 0 ≠ ST) : curS (MF lk c ceil st at_ sp r) 1 ST = none := curS_not (s := ⟨5, 1, 1, [⟨2, 0, 0, 1⟩, ⟨3, 0, 1, 0⟩], 0, 0, ⟨0, 0, 0, 0⟩, [], [], 0, 0, 0, 0, 0⟩) rfl h
theorem mf_regs {lk c ceil st at_ sp a ST : Int} {r : A4 Int} (h : regsMay r = false) : curS (MF lk c ceil st at_ sp r) a ST = none :=
  curS_no (here_sess (List.mem_cons_self ..) h)
end Ve
