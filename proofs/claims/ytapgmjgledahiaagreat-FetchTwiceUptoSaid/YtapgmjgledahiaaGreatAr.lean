/- Remainders, shifts, kinds of integers. -/
import Derived.Test.YtapgmjgledahiaaGreatVeN
import Derived.Test.YtapgmjgledahiaaGreatVeP
set_option linter.all false
set_option linter.unusedSectionVars false
namespace Ve
open Go
theorem bin_rem {L : Lay} {t : TypeId} {k : IntKind} {a b : Int} (h : b ≠ 0) : opBin L .rem t (.lit (.int k a)) (.lit (.int k b)) = some (.lit (.int k (a.tmod b))) := by
  simp [opBin, binOp, Op.intDiv, h, purely]; rfl
theorem bin_shr {L : Lay} {t : TypeId} {k j : IntKind} {a b : Int} (h : ¬ b < 0) : opBin L .shr t (.lit (.int k a)) (.lit (.int j b)) = some (.lit (.int k (a.fdiv (2 ^ min b.toNat k.bits)))) := by
  simp [opBin, binOp, Op.shift, h, purely]; rfl
def uW (a : Int) : Int := IntKind.wrap .u64 a
theorem uW_pos (a : Int) : 0 ≤ uW a := by
  have e1 : (2 ^ IntKind.bits .u64 : Int) = 18446744073709551616 := by decide
  simp only [uW, IntKind.wrap, IntKind.signed, Bool.false_and, Bool.false_eq_true, if_false, e1]
  omega
theorem rem_in {a b : Int} (ha : 0 ≤ a) (hb : 0 < b) : 0 ≤ a.tmod b ∧ a.tmod b ≤ b - 1 := by
  rw [Int.tmod_eq_emod_of_nonneg ha]
  have h1 := Int.emod_nonneg a (show b ≠ 0 by omega)
  have h2 := Int.emod_lt_of_pos a hb
  omega
theorem rem_u (a : Int) {b : Int} (hb : 0 < b) (hb' : b ≤ 1000000) : IntKind.wrap .i64 ((IntKind.wrap .u64 a).tmod b) = (uW a).tmod b := by
  have := rem_in (uW_pos a) hb
  exact wrap_small (by show 0 ≤ (uW a).tmod b; omega) (by show (uW a).tmod b ≤ _; omega)
theorem rem_inR (a : Int) {b : Int} (hb : 0 < b) : inR ((uW a).tmod b) (b - 1) = true := by
  have := rem_in (uW_pos a) hb
  rw [inR_le]; omega
end Ve
namespace Ve
open Go
theorem un_neg {k : IntKind} {a : Int} : opUn .neg (.lit (.int k a)) = some (.lit (.int k (k.wrap (0 - a)))) := rfl
theorem mask_in (a : Int) (c : Nat) (hc : c ≤ 1000000) : inR (andI a c) c = true := by
  have h : (BitVec.ofInt 64 a &&& BitVec.ofInt 64 (c : Int)).toNat ≤ c := by
    have : (BitVec.ofInt 64 (c : Int)).toNat = c := by
      rw [BitVec.toNat_ofInt, show ((2 ^ 64 : Nat) : Int) = 18446744073709551616 from rfl]
      omega
    rw [BitVec.toNat_and, this]; exact Nat.and_le_right
  unfold andI
  rw [wrap_small (by omega) (by omega), inR_le]
  omega
theorem again_bad {m : TMach} {at_ kind : Int} (h : (hereM m at_ && (decide (kind = 3) || decide (kind = 5))) = false) : againM m at_ kind = (zeroM, 1300) := by
  unfold againM; rw [h]; rfl
theorem end_bad {m : TMach} {at_ r t : Int} (h : (hereM m at_ && inR r 5 && inR t 255) = false) : endM m at_ r t = (zeroM, 1300) := by
  unfold endM; rw [h]; rfl
theorem here_ceil {m : TMach} {c at_ : Int} (h : inR c 65535 = false) : hereM { m with ceil := c } at_ = false := by
  simp only [hereM, mayM, h, Bool.and_false, Bool.false_and]
theorem here_at {m : TMach} {at_ : Int} (h : at_ < 0 ∨ (m.sess.length : Int) ≤ at_) : hereM m at_ = false := by
  simp only [hereM, Bool.and_eq_false_iff, decide_eq_false_iff_not]
  rcases h with h | h
  · exact .inl (.inr (by omega))
  · exact .inr (by omega)
end Ve
