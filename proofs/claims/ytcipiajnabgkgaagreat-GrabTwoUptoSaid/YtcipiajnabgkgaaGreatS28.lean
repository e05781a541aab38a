/- The program's writing back. -/
import Derived.Test.YtcipiajnabgkgaaGreatS27
set_option linter.all false
set_option linter.unusedSectionVars false
namespace Ve
open Go Ve.Ab
set_option maxHeartbeats 16000000
set_option maxRecDepth 10000
theorem s_write (i : Nat) (a b c v k : Int) : pureOf (Lv ctx (i + 4)) 44 [.agg [iV a, iV b, iV c], iV v, iV k] = some (.tup [eW (writeW ⟨a, b, c⟩ v k).1, iV (writeW ⟨a, b, c⟩ v k).2]) := by
  cases h1 : (wordMay ⟨a, b, c⟩ && wordMay ⟨v, k, 0⟩)
  · have e : writeW ⟨a, b, c⟩ v k = (zeroW, 300) := by simp only [writeW, h1]; rfl
    rw [e]
    refine sp_of rfl 0 (by rfl) ?_
    delta c44
    simp +contextual -dsimp -implicitDefEqProofs (maxSteps := 5000000) only [nn2, h1, zeroW, go_sem, simprocAttr]
  · have e : writeW ⟨a, b, c⟩ v k = (⟨v, k, 0⟩, 0) := by simp only [writeW, h1, if_true]
    rw [e]
    refine sp_of rfl 0 (by rfl) ?_
    delta c44
    simp +contextual -dsimp -implicitDefEqProofs (maxSteps := 5000000) only [nn2, h1, go_sem, simprocAttr]
theorem s_is (i : Nat) (p pf : Bool) (m : TMach) (at_ st : Int) (hm : SmM m) : pureOf (Lv ctx (i + 21)) 42 [.ip p (cM pf m) 0, iV at_, iV st] = some (bV (curS m at_ st).isSome) := by
  have h1 := s_mthere (i + 0) p pf m at_ hm
  simp only [Nat.add_assoc, Nat.reduceAdd] at h1
  cases lf_cases m at_ st with
  | no h =>
    rw [curS_no h]
    refine sp_of rfl 0 (by rfl) ?_
    delta c42
    simp +contextual -dsimp -implicitDefEqProofs (maxSteps := 5000000) only [h1, h, Option.isSome_none, go_sem, simprocAttr]
  | off k s e0 hs hM hS hst =>
    subst e0
    rw [curS_off hs hM hst]
    have hh := here_k hs hM
    have hk := get_lt hs
    have e1 : (0 ≤ (k : Int)) = True := by simp
    have e2 : ((k : Int) < (m.sess.length : Int)) = True := by simpa using hk
    have z0 : decide (s.step = st) = false := by simpa using hst
    refine sp_of rfl 0 (by rfl) ?_
    delta c42
    simp +contextual -dsimp -implicitDefEqProofs (maxSteps := 5000000) only [h1, hh, hs, e1, e2, z0, Option.isSome_none, go_sem, simprocAttr]
  | fin k s e0 hs hM hS hst hp =>
    subst e0
    rw [curS_on hs hM hst]
    have hh := here_k hs hM
    have hk := get_lt hs
    have e1 : (0 ≤ (k : Int)) = True := by simp
    have e2 : ((k : Int) < (m.sess.length : Int)) = True := by simpa using hk
    have z0 : decide (s.step = st) = true := by simpa using hst
    refine sp_of rfl 0 (by rfl) ?_
    delta c42
    simp +contextual -dsimp -implicitDefEqProofs (maxSteps := 5000000) only [h1, hh, hs, e1, e2, z0, Option.isSome_some, go_sem, simprocAttr]
  | on k n s w e0 hs hM hS hst hp hn hi =>
    subst e0
    rw [curS_on hs hM hst]
    have hh := here_k hs hM
    have hk := get_lt hs
    have e1 : (0 ≤ (k : Int)) = True := by simp
    have e2 : ((k : Int) < (m.sess.length : Int)) = True := by simpa using hk
    have z0 : decide (s.step = st) = true := by simpa using hst
    refine sp_of rfl 0 (by rfl) ?_
    delta c42
    simp +contextual -dsimp -implicitDefEqProofs (maxSteps := 5000000) only [h1, hh, hs, e1, e2, z0, Option.isSome_some, go_sem, simprocAttr]
theorem s_back (i : Nat) (pf : Bool) (m : TMach) (hm : SmM m) (at_ : Int) : pureOf (Lv ctx (i + 22)) 16 [eM pf m, iV at_] = some (.tup [oM (backM m at_).1, iV (backM m at_).2]) := by
  have ql := s_is (i + 0) pf pf m at_ 4 hm
  have qc := s_mcopy (i + 18) pf m hm
  cases lf_cases m at_ 4 with
  | no h =>
    rw [back_none (left_none (curS_no h)), zero_o]
    rw [curS_no h] at ql
    simp only [Nat.add_assoc, Nat.reduceAdd, Option.isSome_none] at ql
    refine sp_of rfl 0 (by rfl) ?_
    delta c16
    cases pf <;> simp +contextual -dsimp -implicitDefEqProofs (maxSteps := 5000000) only [ql, go_sem, simprocAttr]
  | off k s e0 hs hM hS hst =>
    subst e0
    have h := curS_off hs hM hst
    rw [back_none (left_none h), zero_o]
    rw [h] at ql
    simp only [Nat.add_assoc, Nat.reduceAdd, Option.isSome_none] at ql
    refine sp_of rfl 0 (by rfl) ?_
    delta c16
    cases pf <;> simp +contextual -dsimp -implicitDefEqProofs (maxSteps := 5000000) only [ql, go_sem, simprocAttr]
  | fin k s e0 hs hM hS hst hp =>
    subst e0
    rw [back_none (left_fin hs hM hst hp), zero_o]
    rw [curS_on hs hM hst] at ql
    simp only [Nat.add_assoc, Nat.reduceAdd, Option.isSome_some] at ql
    have hk := get_lt hs
    have e1 : (0 ≤ (k : Int)) = True := by simp
    have e2 : ((k : Int) < (m.sess.length : Int)) = True := by simpa using hk
    have z1 : decide ((s.writes.length : Int) = (s.writes.length : Int)) = true := by simp
    refine sp_of rfl 0 (by rfl) ?_
    delta c16
    cases pf <;> simp +contextual -dsimp -implicitDefEqProofs (maxSteps := 5000000) only [ql, hs, e1, e2, hp, z1, go_sem, simprocAttr]
  | on k n s w e0 hs hM hS hst hp hn hi =>
    subst e0
    have hl := left_on hs hM hst hp hi
    obtain ⟨j, g, hj, hg, hgm, hlev, hv⟩ := word_at hM hS hi
    have qw := s_write (i + 17) g.val g.ver g.lock w.val s.stamp
    rw [show (⟨g.val, g.ver, g.lock⟩ : TWord) = g from rfl, write_ok hgm hv hS.stamp] at qw
    have qe := s_end (i + 0) false (wroteM m k s w) (sm_wrote hm hs w) k 1 0
    rw [curS_on hs hM hst] at ql
    simp only [Nat.add_assoc, Nat.reduceAdd, Option.isSome_some, eW] at ql qc qe qw
    have hk := get_lt hs
    have e1 : (0 ≤ (k : Int)) = True := by simp
    have e2 : ((k : Int) < (m.sess.length : Int)) = True := by simpa using hk
    have e3 : ∀ x, ((m.sess.map oS).set k x)[k]? = some x := fun x => List.getElem?_set_self (by simpa using hk)
    have e4 : ∀ x y, ((m.sess.map oS).set k x).set k y = (m.sess.map oS).set k y := fun x y => List.set_set ..
    have p1 : (0 ≤ (n : Int)) = True := by simp
    have p2 : ((n : Int) < (s.writes.length : Int)) = True := by simpa using hn
    have p3 : decide ((n : Int) = (s.writes.length : Int)) = false := by simp; omega
    have jn : w.index.toNat = j := by rw [hj]; rfl
    have j1 : (0 ≤ (j : Int)) = True := by simp
    have hn1 : IntKind.wrap .i64 ((n : Int) + 1) = (n : Int) + 1 := by
      have := (hm.s s (List.mem_of_getElem? hs)).bw
      exact wrap_small (by omega) (by omega)
    rcases hlev with h0 | h0 | h0 | h0
    all_goals
      rw [h0] at hg
      simp only [A4.get] at hg
      simp only [show ((1 : Int) = 0) = False by decide, show ((2 : Int) = 0) = False by decide, show ((2 : Int) = 1) = False by decide, show ((3 : Int) = 0) = False by decide, show ((3 : Int) = 1) = False by decide, show ((3 : Int) = 2) = False by decide, if_true, if_false] at hg
      have hjl := get_lt hg
      have j2 := eq_true (Int.ofNat_lt.2 hjl)
      by_cases hlast : s.at_ + 1 = s.writes.length
      · rw [back_last hl hlast]
        have l1 : decide ((n : Int) + 1 < (s.writes.length : Int)) = false := by rw [hp] at hlast; simp; omega
        generalize endM (wroteM m k s w) k 1 0 = r at qe ⊢
        simp only [wroteM, setS, setW, h0, setA_0, setA_1, setA_2, setA_3, jn, hp, eM, cM, eWs, eSs, eEs, List.map_set, eW, eS, Int.toNat_natCast] at qe
        refine sp_of rfl 0 (by rfl) ?_
        delta c16
        cases pf <;> simp +contextual -dsimp -implicitDefEqProofs (maxSteps := 5000000) only [ql, qc, qw, qe, hs, e1, e2, e3, e4, p1, p2, p3, hp, hi, h0, hj, hg, j1, j2, hn1, l1, List.length_set, hk, go_sem, simprocAttr]
      · rw [back_more hl hlast]
        have l1 : decide ((n : Int) + 1 < (s.writes.length : Int)) = true := by rw [hp] at hlast; simp; omega
        simp only [wroteM, setS, setW, h0, setA_0, setA_1, setA_2, setA_3, jn, hp, Int.toNat_natCast, oM, cO, oWs, oSs, oEs, List.map_set, eW, oS]
        refine sp_of rfl 0 (by rfl) ?_
        delta c16
        cases pf <;> simp +contextual -dsimp -implicitDefEqProofs (maxSteps := 5000000) only [ql, qc, qw, hs, e1, e2, e3, e4, p1, p2, p3, hp, hi, h0, hj, hg, j1, j2, hn1, l1, List.length_set, hk, go_sem, simprocAttr]
end Ve
