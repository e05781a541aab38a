/- The statement FetchOne. -/
import Derived.Test.YtapgmjgledahiaaGreatS47
import Derived.Test.YtapgmjgledahiaaGreatS37
import Derived.Test.YtapgmjgledahiaaGreatS20
set_option linter.all false
set_option linter.unusedSectionVars false
namespace Ve
open Go Ve.Ab
set_option maxHeartbeats 16000000
set_option maxRecDepth 20000
theorem u_FetchOne (i : Nat) (m : TMach) (hm : SmM m) (at_ : Int) (haw : pureOf (Lv ctx (i + 24)) 31 [] = some (bV true)) : pureOf (Lv ctx (i + 25)) 10 [eM true m, iV at_] = some (bV true) := by
  have hz := w_zero (i + 21) true false
  have hz' := w_zero (i + 21) false false
  have h2 := s_fetch (i + 1) true m hm at_
  simp only [Nat.add_assoc, Nat.reduceAdd] at hz hz' h2
  have dd : ∀ n : Int, decide (n = n) = true := fun n => by simp
  rcases read_cases m at_ with h | ⟨k, n, s, x, rfl, hs, hM, hS, hst, hp, hn, hi, hc, hcur⟩
  · rw [(no_read h).2.2, zero_o] at h2
    refine sp_of rfl 0 (by rfl) ?_
    delta c10
    simp +contextual -dsimp -implicitDefEqProofs (maxSteps := 5000000) only [haw, h2, hz, hz', go_sem, simprocAttr]
  · have hsm := hm.s s (List.mem_of_getElem? hs)
    have ht := (sp_inst hS hi).2.2 (.inl hc)
    have hk := get_lt hs
    have e1 : (0 ≤ (k : Int)) = True := by simp
    have e2 : ((k : Int) < (m.sess.length : Int)) = True := by simpa using hk
    have d1 : decide ((k : Int) < 0) = false := by simp
    have d2 : decide ((m.sess.length : Int) ≤ (k : Int)) = false := by simp; try omega
    have hpc : IntKind.wrap .i64 ((n : Int) + 1) = (n : Int) + 1 := wrap_small (by omega) (by have := hsm.bp; omega)
    have z1 : decide ((n : Int) + 1 = 0) = false := by simp; omega
    have q1 := fun p q => s_sameArena (i + 22) p q m.words m.words hm.w0 hm.w1 hm.w2 hm.w3
    simp only [Nat.add_assoc, Nat.reduceAdd, decide_true] at q1
    have told : ∀ (s' : TSess) (e : TEvent), ∃ A : TMach, tellM (setS m k s') e = A ∧ A.sess[k]? = some s' ∧ A.words = m.words ∧ A.sess.length = m.sess.length := by
      intro s' e
      refine ⟨_, rfl, ?_, by rw [tell_words]; rfl, ?_⟩
      · rw [tell_sess]; exact List.getElem?_set_self hk
      · rw [tell_sess]; exact List.length_set ..
    cases hu : under x.b s.label
    · rw [fetch_up hcur hc hu, zero_o] at h2
      refine sp_of rfl 0 (by rfl) ?_
      delta c10
      simp +contextual -dsimp -implicitDefEqProofs (maxSteps := 5000000) only [haw, h2, hz, hz', go_sem, simprocAttr]
    · obtain ⟨nx, wd, hcx, hgw, hge, hln⟩ := there_get (w0 := m.words.a0) (w1 := m.words.a1) (w2 := m.words.a2) (w3 := m.words.a3) ht
      obtain ⟨hwm, hr1⟩ := read_ok hM.arena ht hgw
      have hgw2 : getW m.words x.b x.c = wd := hge
      cases hfw : findWrite s.writes x.b x.c with
      | mk v own =>
      cases own
      · by_cases hgl : (goodM m.words s.reads s.id).1 = true ∧ wd.lock = 0
        · rw [fetch_good hcur hc hu hfw hgw2 hgl.1 hgl.2] at h2
          rcases read_room hS.reads hr1 with hr | hr
          · rw [hr.1] at h2
            obtain ⟨A, hA0, hA, a3, al⟩ := told (readS s x s.reads wd.val) ⟨s.id, s.label, 0, wd.val⟩
            rw [hA0] at h2
            have e3 : ((k : Int) < (A.sess.length : Int)) = True := by rw [al]; exact e2
            have d3 : decide ((A.sess.length : Int) ≤ (k : Int)) = false := by rw [al]; exact d2
            clear told hA0
            simp only [readS] at hA
            refine sp_of rfl 0 (by rfl) ?_
            delta c10
            simp +contextual -dsimp -implicitDefEqProofs (maxSteps := 5000000) only [haw, h2, hz, hz', hs, e1, e2, e3, d1, d2, d3, hA, dd, a3, q1, hp, hpc, z1, go_sem, simprocAttr]
          · rw [hr.1] at h2
            obtain ⟨A, hA0, hA, a3, al⟩ := told (readS s x (s.reads ++ [⟨x.b, x.c, wd.ver⟩]) wd.val) ⟨s.id, s.label, 0, wd.val⟩
            rw [hA0] at h2
            have e3 : ((k : Int) < (A.sess.length : Int)) = True := by rw [al]; exact e2
            have d3 : decide ((A.sess.length : Int) ≤ (k : Int)) = false := by rw [al]; exact d2
            clear told hA0
            have hg0 : goodM m.words (s.reads ++ [⟨x.b, x.c, wd.ver⟩]) s.id = (true, 0) := by
              have h1 := hgl.1
              rw [good_may hM hS] at h1
              unfold goodM
              have hrt : readsThere m.words (s.reads ++ [⟨x.b, x.c, wd.ver⟩]) = true := by
                have h3 := hS.rthere
                simp only [readsThere, List.all_append, List.all_cons, List.all_nil, Bool.and_true, Bool.and_eq_true] at h3 ⊢
                exact ⟨h3, ht⟩
              rw [hM.arena, hr.2.2, hrt, hS.id]
              have h4 : goodR m.words s.id ⟨x.b, x.c, wd.ver⟩ = true := by
                simp only [goodR, hgw2, hgl.2, decide_true, Bool.true_or, Bool.and_self]
              simp only [List.all_append, List.all_cons, List.all_nil, Bool.and_true, h4]
              rw [if_pos trivial]
              exact Prod.ext h1 rfl
            have hl16 : s.reads.length ≤ 16 := by have := hS.reads; simp only [readsMay, Bool.and_eq_true, decide_eq_true_eq] at this; exact this.2
            have qg := fun a p => r_good (i + 19) a a a a false false false false m.words.a0 m.words.a1 m.words.a2 m.words.a3 hm.w0 hm.w1 hm.w2 hm.w3 p false (s.reads ++ [⟨x.b, x.c, wd.ver⟩]) (by simp only [BB]; simp; omega) s.id
            simp only [show (⟨m.words.a0, m.words.a1, m.words.a2, m.words.a3⟩ : A4 (List TWord)) = m.words from rfl, hg0, Nat.add_assoc, Nat.reduceAdd, List.map_append, List.map_cons, List.map_nil, eR] at qg
            have z2 : decide (((s.reads.length + 1 : Nat) : Int) = (s.reads.length : Int)) = false := by simp; omega
            have z3 : IntKind.wrap .i64 ((s.reads.length : Int) + 1) = ((s.reads.length + 1 : Nat) : Int) := by rw [wrap_small (by omega) (by omega)]; omega
            have dn : ∀ n : Nat, decide ((n : Int) = (n : Int)) = true := fun n => by simp
            simp only [readS] at hA
            refine sp_of rfl 0 (by rfl) ?_
            delta c10
            simp +contextual -dsimp -implicitDefEqProofs (maxSteps := 5000000) only [haw, h2, hz, hz', hs, e1, e2, e3, d1, d2, d3, hA, dd, a3, q1, hp, hpc, z1, z2, z3, qg, List.map_append, List.map_cons, List.map_nil, eR, List.length_append, List.length_map, List.length_cons, List.length_nil, go_sem, simprocAttr]
        · have a1 := anew_sess (m := m) (k := k) (s := s) 3
          rw [fetch_bad hcur hc hu hfw hgw2 hgl, again_at hs hM (.inl rfl)] at h2
          generalize anew m k s 3 = A at h2 a1
          have hA : A.sess[k]? = some (againS s) := by rw [a1]; exact List.getElem?_set_self hk
          have al : A.sess.length = m.sess.length := by rw [a1]; exact List.length_set ..
          have e3 : ((k : Int) < (A.sess.length : Int)) = True := by rw [al]; exact e2
          have d3 : decide ((A.sess.length : Int) ≤ (k : Int)) = false := by rw [al]; exact d2
          simp only [againS, dropS] at hA
          clear told
          cases z3 : decide (minT s.tries = s.tries)
          all_goals
            refine sp_of rfl 0 (by rfl) ?_
            delta c10
            simp +contextual -dsimp -implicitDefEqProofs (maxSteps := 5000000) only [haw, h2, hz, hz', hs, e1, e2, e3, d1, d2, d3, hA, dd, z3, go_sem, simprocAttr]
      · rw [fetch_own hcur hc hu hfw] at h2
        obtain ⟨A, hA0, hA, a3, al⟩ := told (readS s x s.reads v) ⟨s.id, s.label, 0, v⟩
        rw [hA0] at h2
        have e3 : ((k : Int) < (A.sess.length : Int)) = True := by rw [al]; exact e2
        have d3 : decide ((A.sess.length : Int) ≤ (k : Int)) = false := by rw [al]; exact d2
        clear told hA0
        simp only [readS] at hA
        refine sp_of rfl 0 (by rfl) ?_
        delta c10
        simp +contextual -dsimp -implicitDefEqProofs (maxSteps := 5000000) only [haw, h2, hz, hz', hs, e1, e2, e3, d1, d2, d3, hA, dd, a3, q1, hp, hpc, z1, go_sem, simprocAttr]
end Ve
