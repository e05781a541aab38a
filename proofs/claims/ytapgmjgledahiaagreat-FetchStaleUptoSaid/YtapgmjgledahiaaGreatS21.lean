/- The reference's words, clocks, registers. -/
import Derived.Test.YtapgmjgledahiaaGreatS18
import Derived.Test.YtapgmjgledahiaaGreatAr
set_option linter.all false
set_option linter.unusedSectionVars false
namespace Ve
open Go Ve.Ab
set_option maxHeartbeats 16000000
set_option maxRecDepth 10000
theorem zero_o : oM zeroM = .agg [.own 3 [], .own 3 [], .own 3 [], .own 3 [], iV 0, iV 0, iV 0, iV 0, iV 0, .own 17 [], .own 4 []] := rfl
theorem nn2 (a b : Bool) : (!a || !b) = !(a && b) := by cases a <;> cases b <;> rfl
theorem nn3 (a b c : Bool) : (!a || !b || !c) = !(a && b && c) := by cases a <;> cases b <;> cases c <;> rfl
theorem nn4 (a b c d : Bool) : (!a || !b || !c || !d) = !(a && b && c && d) := by cases a <;> cases b <;> cases c <;> cases d <;> rfl
theorem wrap_in {x c : Int} (h : inR x c = true) (hc : c ≤ 65535) : IntKind.wrap .i64 (x + 1) = x + 1 := by
  rw [inR_le] at h
  exact wrap_small (by omega) (by omega)
theorem r_lock (i : Nat) (a b c id : Int) : pureOf (Lv ctx (i + 4)) 101 [.agg [iV a, iV b, iV c], iV id] = some (.tup [eW (lockW ⟨a, b, c⟩ id).1, iV (lockW ⟨a, b, c⟩ id).2]) := by
  cases h1 : (wordMay ⟨a, b, c⟩ && inR id 254)
  · have e : lockW ⟨a, b, c⟩ id = (zeroW, 300) := by simp only [lockW, h1]; rfl
    rw [e]
    refine sp_of rfl 0 (by rfl) ?_
    delta c101
    simp +contextual -dsimp -implicitDefEqProofs (maxSteps := 5000000) only [nn2, h1, zeroW, go_sem, simprocAttr]
  · have hw := wrap_in (c := 254) (x := id) (by simp only [Bool.and_eq_true] at h1; exact h1.2) (by omega)
    by_cases hc : c = 0
    · have e : lockW ⟨a, b, c⟩ id = (⟨a, b, id + 1⟩, 0) := by subst hc; simp only [lockW, h1, if_true]
      rw [e]
      have h2 : decide (c = 0) = true := by simpa using hc
      refine sp_of rfl 0 (by rfl) ?_
      delta c101
      simp +contextual -dsimp -implicitDefEqProofs (maxSteps := 5000000) only [nn2, h1, h2, hw, go_sem, simprocAttr]
    · have e : lockW ⟨a, b, c⟩ id = (zeroW, 301) := by simp only [lockW, h1, if_true, hc, if_false]
      rw [e]
      have h2 : decide (c = 0) = false := by simpa using hc
      refine sp_of rfl 0 (by rfl) ?_
      delta c101
      simp +contextual -dsimp -implicitDefEqProofs (maxSteps := 5000000) only [nn2, h1, h2, zeroW, go_sem, simprocAttr]
theorem r_write (i : Nat) (a b c v k : Int) : pureOf (Lv ctx (i + 4)) 103 [.agg [iV a, iV b, iV c], iV v, iV k] = some (.tup [eW (writeW ⟨a, b, c⟩ v k).1, iV (writeW ⟨a, b, c⟩ v k).2]) := by
  cases h1 : (wordMay ⟨a, b, c⟩ && wordMay ⟨v, k, 0⟩)
  · have e : writeW ⟨a, b, c⟩ v k = (zeroW, 300) := by simp only [writeW, h1]; rfl
    rw [e]
    refine sp_of rfl 0 (by rfl) ?_
    delta c103
    simp +contextual -dsimp -implicitDefEqProofs (maxSteps := 5000000) only [nn2, h1, zeroW, go_sem, simprocAttr]
  · have e : writeW ⟨a, b, c⟩ v k = (⟨v, k, 0⟩, 0) := by simp only [writeW, h1, if_true]
    rw [e]
    refine sp_of rfl 0 (by rfl) ?_
    delta c103
    simp +contextual -dsimp -implicitDefEqProofs (maxSteps := 5000000) only [nn2, h1, go_sem, simprocAttr]
abbrev e4 (a : A4 Int) : V := .agg [iV a.a0, iV a.a1, iV a.a2, iV a.a3]

theorem r_next (i : Nat) (a b c d l k : Int) : pureOf (Lv ctx (i + 3)) 102 [.agg [iV a, iV b, iV c, iV d], iV l, iV k] =
    some (.tup [e4 (nextC ⟨a, b, c, d⟩ l k).1, iV (nextC ⟨a, b, c, d⟩ l k).2.1, iV (nextC ⟨a, b, c, d⟩ l k).2.2]) := by
  have hp : (inR l 3 && inR k 65535 && inR a 65535 && inR b 65535 && inR c 65535 && inR d 65535) = ((⟨a, b, c, d⟩ : A4 Int).all (fun x => inR x 65535) && inR k 65535 && inR l 3) := by
    simp only [A4.all]
    cases inR l 3 <;> cases inR k 65535 <;> cases inR a 65535 <;> cases inR b 65535 <;> cases inR c 65535 <;> cases inR d 65535 <;> rfl
  cases h1 : (inR l 3 && inR k 65535 && inR a 65535 && inR b 65535 && inR c 65535 && inR d 65535)
  · have e : nextC ⟨a, b, c, d⟩ l k = (zero4, 0, 500) := by simp only [nextC, ← hp, h1]; rfl
    rw [e]
    refine sp_of rfl 5 (by rfl) ?_
    delta c102
    simp +contextual -dsimp -implicitDefEqProofs (maxSteps := 5000000) only [gLs, ↓un_c (c102_1.eq_1), h1, zero4, go_sem, simprocAttr]
  · have hh := h1
    simp only [Bool.and_eq_true] at hh
    obtain ⟨⟨⟨⟨⟨hl, hk⟩, ha⟩, hb⟩, hc⟩, hd⟩ := hh
    have wa := wrap_in ha (by omega)
    have wb := wrap_in hb (by omega)
    have wc := wrap_in hc (by omega)
    have wd := wrap_in hd (by omega)
    rcases lab_cases l with rfl | hl'
    · by_cases hf : k ≤ a
      · have e : nextC ⟨a, b, c, d⟩ 0 k = (zero4, 0, 501) := by simp only [nextC, ← hp, h1, if_true]; exact if_pos hf
        rw [e]
        have h2 : decide (k ≤ a) = true := by simpa using hf
        refine sp_of rfl 5 (by rfl) ?_
        delta c102
        simp +contextual -dsimp -implicitDefEqProofs (maxSteps := 5000000) only [gLs, ↓un_c (c102_1.eq_1), hl, hk, ha, hb, hc, hd, Bool.and_self, h2, zero4, go_sem, simprocAttr]
      · have e : nextC ⟨a, b, c, d⟩ 0 k = ((⟨a, b, c, d⟩ : A4 Int).set 0 (a + 1), a + 1, 0) := by simp only [nextC, ← hp, h1, if_true]; exact if_neg hf
        rw [e]
        have h2 : decide (k ≤ a) = false := by simpa using hf
        refine sp_of rfl 5 (by rfl) ?_
        delta c102
        simp +contextual -dsimp -implicitDefEqProofs (maxSteps := 5000000) only [gLs, ↓un_c (c102_1.eq_1), hl, hk, ha, hb, hc, hd, Bool.and_self, h2, wa, wb, wc, wd, A4.set, go_sem, simprocAttr]
        rw [gE_draw (hd := by rfl)]
        simp +contextual -dsimp -implicitDefEqProofs (maxSteps := 5000000) only [hl, hk, ha, hb, hc, hd, Bool.and_self, h2, wa, wb, wc, wd, A4.set, go_sem, simprocAttr]
    rcases hl' with rfl | hl'
    · by_cases hf : k ≤ b
      · have e : nextC ⟨a, b, c, d⟩ 1 k = (zero4, 0, 501) := by simp only [nextC, ← hp, h1, if_true]; exact if_pos hf
        rw [e]
        have h2 : decide (k ≤ b) = true := by simpa using hf
        refine sp_of rfl 5 (by rfl) ?_
        delta c102
        simp +contextual -dsimp -implicitDefEqProofs (maxSteps := 5000000) only [gLs, ↓un_c (c102_1.eq_1), hl, hk, ha, hb, hc, hd, Bool.and_self, h2, zero4, go_sem, simprocAttr]
      · have e : nextC ⟨a, b, c, d⟩ 1 k = ((⟨a, b, c, d⟩ : A4 Int).set 1 (b + 1), b + 1, 0) := by simp only [nextC, ← hp, h1, if_true]; exact if_neg hf
        rw [e]
        have h2 : decide (k ≤ b) = false := by simpa using hf
        refine sp_of rfl 5 (by rfl) ?_
        delta c102
        simp +contextual -dsimp -implicitDefEqProofs (maxSteps := 5000000) only [gLs, ↓un_c (c102_1.eq_1), hl, hk, ha, hb, hc, hd, Bool.and_self, h2, wa, wb, wc, wd, A4.set, go_sem, simprocAttr]
        rw [gE_draw (hd := by rfl)]
        simp +contextual -dsimp -implicitDefEqProofs (maxSteps := 5000000) only [hl, hk, ha, hb, hc, hd, Bool.and_self, h2, wa, wb, wc, wd, A4.set, go_sem, simprocAttr]
    rcases hl' with rfl | hl'
    · by_cases hf : k ≤ c
      · have e : nextC ⟨a, b, c, d⟩ 2 k = (zero4, 0, 501) := by simp only [nextC, ← hp, h1, if_true]; exact if_pos hf
        rw [e]
        have h2 : decide (k ≤ c) = true := by simpa using hf
        refine sp_of rfl 5 (by rfl) ?_
        delta c102
        simp +contextual -dsimp -implicitDefEqProofs (maxSteps := 5000000) only [gLs, ↓un_c (c102_1.eq_1), hl, hk, ha, hb, hc, hd, Bool.and_self, h2, zero4, go_sem, simprocAttr]
      · have e : nextC ⟨a, b, c, d⟩ 2 k = ((⟨a, b, c, d⟩ : A4 Int).set 2 (c + 1), c + 1, 0) := by simp only [nextC, ← hp, h1, if_true]; exact if_neg hf
        rw [e]
        have h2 : decide (k ≤ c) = false := by simpa using hf
        refine sp_of rfl 5 (by rfl) ?_
        delta c102
        simp +contextual -dsimp -implicitDefEqProofs (maxSteps := 5000000) only [gLs, ↓un_c (c102_1.eq_1), hl, hk, ha, hb, hc, hd, Bool.and_self, h2, wa, wb, wc, wd, A4.set, go_sem, simprocAttr]
        rw [gE_draw (hd := by rfl)]
        simp +contextual -dsimp -implicitDefEqProofs (maxSteps := 5000000) only [hl, hk, ha, hb, hc, hd, Bool.and_self, h2, wa, wb, wc, wd, A4.set, go_sem, simprocAttr]
    rcases hl' with rfl | hl'
    · by_cases hf : k ≤ d
      · have e : nextC ⟨a, b, c, d⟩ 3 k = (zero4, 0, 501) := by simp only [nextC, ← hp, h1, if_true]; exact if_pos hf
        rw [e]
        have h2 : decide (k ≤ d) = true := by simpa using hf
        refine sp_of rfl 5 (by rfl) ?_
        delta c102
        simp +contextual -dsimp -implicitDefEqProofs (maxSteps := 5000000) only [gLs, ↓un_c (c102_1.eq_1), hl, hk, ha, hb, hc, hd, Bool.and_self, h2, zero4, go_sem, simprocAttr]
      · have e : nextC ⟨a, b, c, d⟩ 3 k = ((⟨a, b, c, d⟩ : A4 Int).set 3 (d + 1), d + 1, 0) := by simp only [nextC, ← hp, h1, if_true]; exact if_neg hf
        rw [e]
        have h2 : decide (k ≤ d) = false := by simpa using hf
        refine sp_of rfl 5 (by rfl) ?_
        delta c102
        simp +contextual -dsimp -implicitDefEqProofs (maxSteps := 5000000) only [gLs, ↓un_c (c102_1.eq_1), hl, hk, ha, hb, hc, hd, Bool.and_self, h2, wa, wb, wc, wd, A4.set, go_sem, simprocAttr]
        rw [gE_draw (hd := by rfl)]
        simp +contextual -dsimp -implicitDefEqProofs (maxSteps := 5000000) only [hl, hk, ha, hb, hc, hd, Bool.and_self, h2, wa, wb, wc, wd, A4.set, go_sem, simprocAttr]
    rw [hl] at hl'; cases hl'
theorem regs_all (a b c d : Int) : regsMay ⟨a, b, c, d⟩ = all4 255 a b c d := rfl
theorem r_set (i : Nat) (a b c d r v : Int) : pureOf (Lv ctx (i + 4)) 130 [.agg [iV a, iV b, iV c, iV d], iV r, iV v] = some (.tup [e4 (setR ⟨a, b, c, d⟩ r v).1, iV (setR ⟨a, b, c, d⟩ r v).2]) := by
  cases h1 : (all4 255 a b c d && inR r 3 && inR v 255)
  · have e : setR ⟨a, b, c, d⟩ r v = (zero4, 600) := by simp only [setR, regs_all, h1]; rfl
    rw [e]
    refine sp_of rfl 0 (by rfl) ?_
    delta c130
    simp +contextual -dsimp -implicitDefEqProofs (maxSteps := 5000000) only [nn3, h1, zero4, go_sem, simprocAttr]
  · have e : setR ⟨a, b, c, d⟩ r v = ((⟨a, b, c, d⟩ : A4 Int).set r v, 0) := by simp only [setR, regs_all, h1, if_true]
    rw [e]
    have hr : inR r 3 = true := by simp only [Bool.and_eq_true] at h1; exact h1.1.2
    rcases lab_cases r with rfl | rfl | rfl | rfl | h'
    case inr.inr.inr.inr => rw [hr] at h'; cases h'
    all_goals
      refine sp_of rfl 0 (by rfl) ?_
      delta c130
      have ha : all4 255 a b c d = true := by simp only [Bool.and_eq_true] at h1; exact h1.1.1
      have hv : inR v 255 = true := by simp only [Bool.and_eq_true] at h1; exact h1.2
      simp +contextual -dsimp -implicitDefEqProofs (maxSteps := 5000000) only [ha, hv, A4.set, go_sem, simprocAttr]
theorem byte_mod {x y : Int} (hx : inR x 255 = true) (hy : inR y 255 = true) : IntKind.wrap .i64 (x + y) = x + y ∧ (x + y).tmod 256 = (x + y) % 256 := by
  rw [inR_le] at hx hy
  exact ⟨wrap_small (by omega) (by omega), Int.tmod_eq_emod_of_nonneg (by omega)⟩
theorem r_add (i : Nat) (a b c d r t : Int) : pureOf (Lv ctx (i + 4)) 131 [.agg [iV a, iV b, iV c, iV d], iV r, iV t] = some (.tup [e4 (addR ⟨a, b, c, d⟩ r t).1, iV (addR ⟨a, b, c, d⟩ r t).2]) := by
  cases h1 : (all4 255 a b c d && inR r 3 && inR t 3)
  · have e : addR ⟨a, b, c, d⟩ r t = (zero4, 600) := by simp only [addR, regs_all, h1]; rfl
    rw [e]
    refine sp_of rfl 0 (by rfl) ?_
    delta c131
    simp +contextual -dsimp -implicitDefEqProofs (maxSteps := 5000000) only [nn3, h1, zero4, go_sem, simprocAttr]
  · have e : addR ⟨a, b, c, d⟩ r t = ((⟨a, b, c, d⟩ : A4 Int).set r (((⟨a, b, c, d⟩ : A4 Int).get r + (⟨a, b, c, d⟩ : A4 Int).get t) % 256), 0) := by simp only [addR, regs_all, h1, if_true]
    rw [e]
    have hh := h1
    simp only [Bool.and_eq_true, all4] at hh
    obtain ⟨⟨⟨⟨⟨ha, hb⟩, hc⟩, hd⟩, hr⟩, ht⟩ := hh
    have a4 : all4 255 a b c d = true := by simp only [all4, ha, hb, hc, hd, Bool.and_self]
    have hne : (256 : Int) ≠ 0 := by decide
    have key : ∀ x y : Int, inR x 255 = true → inR y 255 = true → opBin lay .rem 3 (iV (IntKind.wrap .i64 (x + y))) (iV 256) = some (iV ((x + y) % 256)) := by
      intro x y hx hy
      rw [bin_rem hne, (byte_mod hx hy).1, (byte_mod hx hy).2]
    have k00 := key a a ha ha
    have k01 := key a b ha hb
    have k02 := key a c ha hc
    have k03 := key a d ha hd
    have k10 := key b a hb ha
    have k11 := key b b hb hb
    have k12 := key b c hb hc
    have k13 := key b d hb hd
    have k20 := key c a hc ha
    have k21 := key c b hc hb
    have k22 := key c c hc hc
    have k23 := key c d hc hd
    have k30 := key d a hd ha
    have k31 := key d b hd hb
    have k32 := key d c hd hc
    have k33 := key d d hd hd
    rcases lab_cases r with rfl | rfl | rfl | rfl | h'
    case inr.inr.inr.inr => rw [hr] at h'; cases h'
    all_goals
      rcases lab_cases t with rfl | rfl | rfl | rfl | h'
      case inr.inr.inr.inr => rw [ht] at h'; cases h'
      all_goals
        refine sp_of rfl 0 (by rfl) ?_
        delta c131
        simp +contextual -dsimp -implicitDefEqProofs (maxSteps := 5000000) only [a4, A4.set, A4.get, k00, k01, k02, k03, k10, k11, k12, k13, k20, k21, k22, k23, k30, k31, k32, k33, go_sem, simprocAttr]
end Ve
