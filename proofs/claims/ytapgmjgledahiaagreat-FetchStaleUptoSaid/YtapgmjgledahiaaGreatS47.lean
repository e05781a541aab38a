/- The program's reading. -/
import Derived.Test.YtapgmjgledahiaaGreatS45
import Derived.Test.YtapgmjgledahiaaGreatS46
import Derived.Test.YtapgmjgledahiaaGreatS33
import Derived.Test.YtapgmjgledahiaaGreatS40
import Derived.Test.YtapgmjgledahiaaGreatS41
set_option linter.all false
set_option linter.unusedSectionVars false
namespace Ve
open Go Ve.Ab
set_option maxHeartbeats 16000000
set_option maxRecDepth 10000
theorem s_fetch (i : Nat) (pf : Bool) (m : TMach) (hm : SmM m) (at_ : Int) : pureOf (Lv ctx (i + 23)) 29 [eM pf m, iV at_] = some (.tup [oM (fetchM m at_).1, iV (fetchM m at_).2]) := by
  have qn := s_needs (i + 0) pf m hm at_
  have qc := s_mcopy (i + 19) pf m hm
  have qa := s_again (i + 1) pf m hm at_ 3
  rcases read_cases m at_ with h | ⟨k, n, s, x, rfl, hs, hM, hS, hst, hp, hn, hi, hc, hcur⟩
  · obtain ⟨g1, _, g2⟩ := no_read h
    rw [g2, zero_o]
    rw [g1] at qn
    simp only [Nat.add_assoc, Nat.reduceAdd] at qn
    refine sp_of rfl 0 (by rfl) ?_
    delta c29
    simp +contextual -dsimp -implicitDefEqProofs (maxSteps := 5000000) only [qn, Bool.and_self_left, Bool.and_self, go_sem, simprocAttr]
  · rw [needs_on hcur hc] at qn
    have hsm := hm.s s (List.mem_of_getElem? hs)
    obtain ⟨hin, _, hth⟩ := sp_inst hS hi
    have ht := hth (.inl hc)
    have hra := inst_reg hin (by omega)
    have hlb := (inst_lab hin (.inl hc)).1
    have hlc := (inst_lab hin (.inl hc)).2
    have qf := s_find (i + 16) false false s.writes hS.writes x.b x.c hlb hlc
    have qg := s_good (i + (15 - 2)) false false m.words s.reads hsm.r s.id
    have qw := fun v => s_withR (i + 17) false false s.reads hsm.br x.b x.c v
    simp only [Nat.add_assoc, Nat.reduceAdd, Nat.reduceSub] at qn qc qa qf qg qw
    have hpc : IntKind.wrap .i64 ((n : Int) + 1) = (n : Int) + 1 := wrap_small (by omega) (by have := hsm.bp; omega)
    have hk := get_lt hs
    have e1 : (0 ≤ (k : Int)) = True := by simp
    have e2 : ((k : Int) < (m.sess.length : Int)) = True := by simpa using hk
    have e3 : (m.sess.map oS)[k]? = some (oS s) := by simp [hs]
    have e4 : ∀ x y, ((m.sess.map oS).set k x).set k y = (m.sess.map oS).set k y := fun x y => List.set_set ..
    have e5 : ∀ x, ((m.sess.map oS).set k x)[k]? = some x := fun x => List.getElem?_set_self (by simpa using hk)
    simp only [oS] at e3
    have p1 : (0 ≤ (n : Int)) = True := by simp
    have p2 : ((n : Int) < (s.prog.length : Int)) = True := by simpa using hn
    cases hu : under x.b s.label
    · rw [hu] at qn
      rw [fetch_up hcur hc hu, zero_o]
      refine sp_of rfl 0 (by rfl) ?_
      delta c29
      simp +contextual -dsimp -implicitDefEqProofs (maxSteps := 5000000) only [qn, Bool.and_self_left, Bool.and_self, go_sem, simprocAttr]
    · rw [hu] at qn
      obtain ⟨nx, wd, hcx, hgw, hge, hln⟩ := there_get (w0 := m.words.a0) (w1 := m.words.a1) (w2 := m.words.a2) (w3 := m.words.a3) ht
      obtain ⟨hwm, hr1⟩ := read_ok hM.arena ht hgw
      have l4 : (0 ≤ (nx : Int)) = True := by simp
      cases hfw : findWrite s.writes x.b x.c with
      | mk v own =>
      rw [hfw] at qf
      cases own
      · have hgw2 : getW m.words x.b x.c = wd := hge
        by_cases hgl : (goodM m.words s.reads s.id).1 = true ∧ wd.lock = 0
        · obtain ⟨hg1, hl0⟩ := hgl
          rw [fetch_good hcur hc hu hfw hgw2 hg1 hl0]
          have hroom : (withRead s.reads ⟨x.b, x.c, wd.ver⟩).2 = 0 := by rcases read_room hS.reads hr1 with h | h <;> rw [h.1]
          have qw1 := qw wd.ver
          rw [hroom] at qw1
          generalize (withRead s.reads ⟨x.b, x.c, wd.ver⟩).1 = R at qw1 ⊢
          have f2 : decide (wd.lock = 0) = true := by simpa using hl0
          rw [hg1] at qg
          refine sp_of rfl 0 (by rfl) ?_
          delta c29
          simp +contextual -dsimp -implicitDefEqProofs (maxSteps := 5000000) only [qn, qc, qf, hs, e1, e2, e3, e4, e5, List.length_set, p1, p2, hp, hi, hk, Bool.and_self_left, Bool.and_self, go_sem, simprocAttr]
          rcases lab4 hlb with hb | hb | hb | hb
          all_goals
            rw [hcx, hb] at qw1
            rw [hb] at hgw hln
            simp only [A4.get, simprocAttr] at hgw hln
            have hln' := eq_true hln
            simp +contextual -dsimp -implicitDefEqProofs (maxSteps := 5000000) only [qg, qw1, hgw, hln', hb, hcx, l4, f2, hpc, e1, e2, e3, e4, e5, List.length_set, p1, p2, hp, hi, hk, Bool.and_self_left, Bool.and_self, go_sem, simprocAttr]
            rcases lab4 hra with ha | ha | ha | ha
            all_goals
              simp +contextual -dsimp -implicitDefEqProofs (maxSteps := 5000000) only [ha, hpc, e1, e2, e4, e5, hp, hk, List.length_set, go_sem, simprocAttr]
              refine gi_inl rfl 0 ?_
              delta c39
              by_cases htr : m.trace.length < 512
              · have h6 : decide ((m.trace.length : Int) < 512) = true := by simp; omega
                have h7 : (((m.trace.length + 1 : Nat) : Int) * 32 ≤ 140737488355328) = True := by simp; omega
                simp only [oM, cO, oWs, oSs, oEs, tellM, setS, readS, htr, if_true, List.map_set, List.map_append, List.map_cons, List.map_nil, oS, ha, hp, A4.set, simprocAttr]
                simp +contextual -dsimp -implicitDefEqProofs (maxSteps := 5000000) only [e1, e2, e4, e5, h6, h7, List.length_set, List.replicate, hk, go_sem, simprocAttr]
              · have h6 : decide ((m.trace.length : Int) < 512) = false := by simp; omega
                simp only [oM, cO, oWs, oSs, oEs, tellM, setS, readS, htr, if_false, List.map_set, oS, ha, hp, A4.set, simprocAttr]
                simp +contextual -dsimp -implicitDefEqProofs (maxSteps := 5000000) only [e1, e2, e4, e5, h6, List.length_set, hk, go_sem, simprocAttr]
        · rw [fetch_bad hcur hc hu hfw hgw2 hgl]
          generalize againM m k 3 = T at qa ⊢
          by_cases hl0 : wd.lock = 0
          · have f2 : decide (wd.lock = 0) = true := by simpa using hl0
            have hg1 : (goodM m.words s.reads s.id).1 = false := by
              cases h : (goodM m.words s.reads s.id).1
              · rfl
              · exact absurd ⟨h, hl0⟩ hgl
            rw [hg1] at qg
            rcases lab4 hlb with hb | hb | hb | hb
            all_goals
              rw [hcx, hb] at qf
              rw [hb] at hgw hln
              simp only [A4.get, simprocAttr] at hgw hln
              have hln' := eq_true hln
              refine sp_of rfl 0 (by rfl) ?_
              delta c29
              simp +contextual -dsimp -implicitDefEqProofs (maxSteps := 5000000) only [qn, qc, qa, qf, qg, hgw, hln', hb, hcx, l4, f2, hs, e1, e2, e3, e4, e5, List.length_set, p1, p2, hp, hi, hk, Bool.and_self_left, Bool.and_self, go_sem, simprocAttr]
          · have f2 : decide (wd.lock = 0) = false := by simpa using hl0
            rcases lab4 hlb with hb | hb | hb | hb
            all_goals
              rw [hcx, hb] at qf
              rw [hb] at hgw hln
              simp only [A4.get, simprocAttr] at hgw hln
              have hln' := eq_true hln
              refine sp_of rfl 0 (by rfl) ?_
              delta c29
              cases hg1 : (goodM m.words s.reads s.id).1
              all_goals
                rw [hg1] at qg
                simp +contextual -dsimp -implicitDefEqProofs (maxSteps := 5000000) only [qn, qc, qa, qf, qg, hgw, hln', hb, hcx, l4, f2, hs, e1, e2, e3, e4, e5, List.length_set, p1, p2, hp, hi, hk, Bool.and_self_left, Bool.and_self, go_sem, simprocAttr]
      · rw [fetch_own hcur hc hu hfw]
        refine sp_of rfl 0 (by rfl) ?_
        delta c29
        simp +contextual -dsimp -implicitDefEqProofs (maxSteps := 5000000) only [qn, qc, qf, hpc, hs, e1, e2, e3, e4, e5, List.length_set, p1, p2, hp, hi, hk, Bool.and_self_left, Bool.and_self, go_sem, simprocAttr]
        rcases lab4 hra with ha | ha | ha | ha
        all_goals
          simp +contextual -dsimp -implicitDefEqProofs (maxSteps := 5000000) only [ha, hpc, e1, e2, e4, e5, hp, hk, List.length_set, go_sem, simprocAttr]
          refine gi_inl rfl 0 ?_
          delta c39
          by_cases htr : m.trace.length < 512
          · have h6 : decide ((m.trace.length : Int) < 512) = true := by simp; omega
            have h7 : (((m.trace.length + 1 : Nat) : Int) * 32 ≤ 140737488355328) = True := by simp; omega
            simp only [oM, cO, oWs, oSs, oEs, tellM, setS, readS, htr, if_true, List.map_set, List.map_append, List.map_cons, List.map_nil, oS, ha, hp, A4.set, simprocAttr]
            simp +contextual -dsimp -implicitDefEqProofs (maxSteps := 5000000) only [e1, e2, e4, e5, h6, h7, List.length_set, List.replicate, hk, go_sem, simprocAttr]
          · have h6 : decide ((m.trace.length : Int) < 512) = false := by simp; omega
            simp only [oM, cO, oWs, oSs, oEs, tellM, setS, readS, htr, if_false, List.map_set, oS, ha, hp, A4.set, simprocAttr]
            simp +contextual -dsimp -implicitDefEqProofs (maxSteps := 5000000) only [e1, e2, e4, e5, h6, List.length_set, hk, go_sem, simprocAttr]
end Ve
