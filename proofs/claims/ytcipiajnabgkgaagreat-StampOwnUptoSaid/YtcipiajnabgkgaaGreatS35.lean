/- The program's clocks, stamping. -/
import Derived.Test.YtcipiajnabgkgaaGreatS28
import Derived.Test.YtcipiajnabgkgaaGreatS30
set_option linter.all false
set_option linter.unusedSectionVars false
namespace Ve
open Go Ve.Ab
set_option maxHeartbeats 16000000
set_option maxRecDepth 10000
theorem s_next (i : Nat) (a b c d l k : Int) : pureOf (Lv ctx (i + 4)) 48 [.agg [iV a, iV b, iV c, iV d], iV l, iV k] =
    some (.tup [e4 (nextC ⟨a, b, c, d⟩ l k).1, iV (nextC ⟨a, b, c, d⟩ l k).2.1, iV (nextC ⟨a, b, c, d⟩ l k).2.2]) := by
  have hp : all4 65535 a b c d = (⟨a, b, c, d⟩ : A4 Int).all (fun x => inR x 65535) := rfl
  cases h1 : (all4 65535 a b c d && inR k 65535 && inR l 3)
  · have e : nextC ⟨a, b, c, d⟩ l k = (zero4, 0, 500) := by simp only [nextC, ← hp, h1]; rfl
    rw [e]
    refine sp_of rfl 0 (by rfl) ?_
    delta c48
    simp +contextual -dsimp -implicitDefEqProofs (maxSteps := 5000000) only [nn2, h1, zero4, go_sem, simprocAttr]
  · obtain ⟨ha, hl⟩ := (Bool.and_eq_true _ _).mp h1
    have hh := ha
    simp only [Bool.and_eq_true, all4] at hh
    have wa := wrap_in hh.1.1.1.1 (by omega)
    have wb := wrap_in hh.1.1.1.2 (by omega)
    have wc := wrap_in hh.1.1.2 (by omega)
    have wd := wrap_in hh.1.2 (by omega)
    have e : nextC ⟨a, b, c, d⟩ l k = if k ≤ (⟨a, b, c, d⟩ : A4 Int).get l then (zero4, 0, 501) else ((⟨a, b, c, d⟩ : A4 Int).set l ((⟨a, b, c, d⟩ : A4 Int).get l + 1), (⟨a, b, c, d⟩ : A4 Int).get l + 1, 0) := by
      unfold nextC; rw [← hp, h1]; rfl
    rw [e]
    clear e hh h1 hp
    rcases lab_cases l with rfl | rfl | rfl | rfl | hl'
    case inr.inr.inr.inr => rw [hl] at hl'; cases hl'
    all_goals
      simp only [A4.get, A4.set, simprocAttr]
      split
      · rename_i hf
        have h2 := decide_eq_true hf
        refine sp_of rfl 0 (by rfl) ?_
        delta c48
        simp +contextual -dsimp -implicitDefEqProofs (maxSteps := 5000000) only [nn2, ha, h2, zero4, go_sem, simprocAttr]
      · rename_i hf
        have h2 := decide_eq_false hf
        refine sp_of rfl 0 (by rfl) ?_
        delta c48
        simp +contextual -dsimp -implicitDefEqProofs (maxSteps := 5000000) only [nn2, ha, h2, wa, wb, wc, wd, go_sem, simprocAttr]
theorem s_stamp (i : Nat) (pf : Bool) (m : TMach) (hm : SmM m) (at_ : Int) : pureOf (Lv ctx (i + 22)) 20 [eM pf m, iV at_] = some (.tup [oM (stampM m at_).1, iV (stampM m at_).2]) := by
  have ql := s_is (i + 0) pf pf m at_ 2 hm
  have qc := s_mcopy (i + 18) pf m hm
  have qe := s_end (i + 0) pf m hm at_ 5 0
  rcases curS_cases m at_ 2 with ⟨h, h'⟩ | ⟨k, s, rfl, hs, hM, hS, hst, h, h'⟩ | ⟨k, s, rfl, hs, hM, hS, hst, h, h'⟩
  case inr.inr =>
    rw [h'] at ql
    have hk := get_lt hs
    have e1 : (0 ≤ (k : Int)) = True := by simp
    have e2 : ((k : Int) < (m.sess.length : Int)) = True := by simpa using hk
    have e3 : ∀ x, ((m.sess.map oS).set k x)[k]? = some x := fun x => List.getElem?_set_self (by simpa using hk)
    have e4 : ∀ x y, ((m.sess.map oS).set k x).set k y = (m.sess.map oS).set k y := fun x y => List.set_set ..
    have qn := s_next (i + 17) m.clocks.a0 m.clocks.a1 m.clocks.a2 m.clocks.a3 s.label m.ceil
    rw [show (⟨m.clocks.a0, m.clocks.a1, m.clocks.a2, m.clocks.a3⟩ : A4 Int) = m.clocks from rfl] at qn
    by_cases hc : m.ceil ≤ m.clocks.get s.label
    · rw [stamp_end h' hc]
      rw [next_end hM hS.label hc] at qn
      simp only [Nat.add_assoc, Nat.reduceAdd, e4, zero4, Option.isSome_some] at ql qe qn
      generalize endM m k 5 0 = r at qe ⊢
      refine sp_of rfl 0 (by rfl) ?_
      delta c20
      cases pf <;> simp +contextual -dsimp -implicitDefEqProofs (maxSteps := 5000000) only [ql, qn, qe, hs, e1, e2, go_sem, simprocAttr]
    · rw [stamp_ok h' hc]
      rw [next_ok hM hS.label hc] at qn
      generalize m.clocks.set s.label (m.clocks.get s.label + 1) = cs at qn ⊢
      generalize m.clocks.get s.label + 1 = sp at qn ⊢
      simp only [Nat.add_assoc, Nat.reduceAdd, e4, Option.isSome_some] at ql qc qn
      simp only [setS, Int.toNat_natCast, oM, cO, oWs, oSs, oEs, List.map_set, oS]
      refine sp_of rfl 0 (by rfl) ?_
      delta c20
      cases pf <;> simp +contextual -dsimp -implicitDefEqProofs (maxSteps := 5000000) only [ql, qn, qc, hs, e1, e2, e3, e4, List.length_set, hk, go_sem, simprocAttr]
  all_goals
    rw [stamp_none h', zero_o]
    rw [h'] at ql
    simp only [Nat.add_assoc, Nat.reduceAdd, Option.isSome_none] at ql
    refine sp_of rfl 0 (by rfl) ?_
    delta c20
    cases pf <;> simp +contextual -dsimp -implicitDefEqProofs (maxSteps := 5000000) only [ql, go_sem, simprocAttr]
end Ve
