/- The statement UndoTwice. -/
import Derived.Test.YtdmcpcghdegheaaGreatU2
set_option linter.all false
set_option linter.unusedSectionVars false
namespace Ve
open Go Ve.Ab
set_option maxRecDepth 10000
set_option linter.unusedSimpArgs false
set_option linter.unusedVariables false
theorem bzs_set (v : V) : ∀ (l : List V) (k : Nat), bzs (l.set k v) = (bzs l).set k v.bz
  | [], k => by simp [bzs]
  | a :: l, 0 => by simp [bzs]
  | a :: l, k + 1 => by simp [bzs, bzs_set v l k]
theorem here_zero (at_ : Int) : hereM zeroM at_ = false := by
  cases h : hereM zeroM at_ with
  | false => rfl
  | true =>
    obtain ⟨s, k, _, hs, hk⟩ := here_get h
    simp [zeroM] at hk
theorem not_here {m : TMach} {at_ : Int} (h : hereM m at_ = false) : (!mayM m || decide (at_ < 0) || decide ((m.sess.length : Int) ≤ at_)) = true := by
  simp only [hereM, Bool.and_eq_false_iff, decide_eq_false_iff_not] at h
  rcases h with (h | h) | h
  · simp [h]
  · simp; omega
  · simp; omega
theorem u_undoTwice (i : Nat) (m : TMach) (hm : SmM m) (at_ a b : Int) (haw : pureOf (Lv ctx (i + 22)) 22 [] = some (bV true)) : pureOf (Lv ctx (i + 23)) 8 [eM true m, iV at_, iV a, iV b] = some (bV true) := by
  have h2 := s_again (i + 1) true m hm at_ 5
  have h3 := s_end (i + 1) true m hm at_ 2 (andI a 255)
  have h4 := r_may (i + 15) true m hm
  rcases here_cases m at_ with hn | ⟨k, s, rfl, hs, hM, hS⟩
  · have h5 := s_again (i + 1) true zeroM sm_zero at_ 5
    have h6 := s_end (i + 1) true zeroM sm_zero at_ 2 (andI b 255)
    have hz : eM true zeroM = zA true := rfl
    rw [again_no hn, zero_o] at h2
    rw [end_no hn, zero_o] at h3
    rw [again_no (here_zero at_), zero_o, hz] at h5
    rw [end_no (here_zero at_), zero_o, hz] at h6
    have h7 := not_here hn
    simp only [Nat.add_assoc, Nat.reduceAdd] at h2 h3 h4 h5 h6
    refine sp_of rfl 0 (by rfl) ?_
    delta c8
    simp (config := { contextual := true, dsimp := false, implicitDefEqProofs := false, maxSteps := 5000000 }) only [h2, h3, h4, h5, h6, haw, h7, go_sem, Nat.reduceEqDiff, Nat.reduceAdd, Nat.reduceLeDiff, Nat.reduceMul, Nat.reduceLT, Nat.reduceBEq, Int.reduceLT, Int.reduceLE, Int.reduceToNat, Int.reduceAdd, Int.reduceSub, Int.reduceEq, Int.reduceNeg, ↓reduceIte]
  · have hk := get_lt hs
    have hx := anew_may hs hM 5
    have hr : inR 2 5 = true := by decide
    have hp := ended_may hs hM hr (mask255 a)
    have e1 := anew_sess (m := m) (k := k) (s := s) 5
    have e2 := ended_sess (m := m) (k := k) (s := s) 2 (andI a 255)
    have g1 : (anew m k s 5).sess[k]? = some (againS s) := by rw [e1]; exact List.getElem?_set_self hk
    have g2 : (ended m k s 2 (andI a 255)).sess[k]? = some (endS s 2 (andI a 255)) := by rw [e2]; exact List.getElem?_set_self hk
    have smx : SmM (anew m k s 5) := by have := sm_again hm k 5; rwa [again_at hs hM (.inr rfl)] at this
    have smp : SmM (ended m k s 2 (andI a 255)) := by have := sm_end hm k 2 (andI a 255); rwa [end_at hs hM hr (mask255 a)] at this
    have h5 := s_again (i + 1) true _ smx k 5
    have h6 := s_end (i + 1) true _ smp k 2 (andI b 255)
    rw [again_at hs hM (.inr rfl)] at h2
    rw [end_at hs hM hr (mask255 a)] at h3
    rw [again_at g1 hx (.inr rfl)] at h5
    rw [end_at g2 hp hr (mask255 b)] at h6
    have smy : SmM (anew (anew m k s 5) k (againS s) 5) := by have := sm_again smx k 5; rwa [again_at g1 hx (.inr rfl)] at this
    have smq : SmM (ended (ended m k s 2 (andI a 255)) k (endS s 2 (andI a 255)) 2 (andI b 255)) := by have := sm_end smp k 2 (andI b 255); rwa [end_at g2 hp hr (mask255 b)] at this
    have qs : (ended (ended m k s 2 (andI a 255)) k (endS s 2 (andI a 255)) 2 (andI b 255)).sess[k]? = some (endS (endS s 2 (andI a 255)) 2 (andI b 255)) := by rw [ended_sess]; exact List.getElem?_set_self (get_lt g2)
    have ys : (anew (anew m k s 5) k (againS s) 5).sess[k]? = some (againS (againS s)) := by rw [anew_sess]; exact List.getElem?_set_self (get_lt g1)
    have tw := twice hs 5
    have wq : (ended (ended m k s 2 (andI a 255)) k (endS s 2 (andI a 255)) 2 (andI b 255)).words = (ended m k s 2 (andI a 255)).words := by
      rw [ended_words, ended_words]
      have : (freeM ((endS s 2 (andI a 255)).id + 1) (ended m k s 2 (andI a 255))).words = (freeM (s.id + 1) (freeM (s.id + 1) m)).words := by
        simp only [freeM, ended_words]; rfl
      rw [this, free_twice]
    generalize anew (anew m k s 5) k (againS s) 5 = Y at h5 smy ys tw
    generalize anew m k s 5 = X at h2 h5 smx g1 tw
    generalize ended (ended m k s 2 (andI a 255)) k (endS s 2 (andI a 255)) 2 (andI b 255) = Q at h6 smq qs wq
    generalize ended m k s 2 (andI a 255) = P at h3 h6 smp g2 wq
    have h8 := w_copy (i + 20) true _ smy
    have h1 : (0 ≤ (k : Int)) = True := by simp
    have h1' : decide ((k : Int) < 0) = false := by simp
    have l1 : ((k : Int) < (m.sess.length : Int)) = True := by simpa using hk
    have lx := get_lt g1
    have ly := get_lt ys
    have lq := get_lt qs
    have lx1 : ((k : Int) < (X.sess.length : Int)) = True := by simpa using lx
    have lx2 : decide ((X.sess.length : Int) ≤ (k : Int)) = false := by simp; omega
    have ly1 : ((k : Int) < (Y.sess.length : Int)) = True := by simpa using ly
    have ly2 : decide ((Y.sess.length : Int) ≤ (k : Int)) = false := by simp; omega
    have lq1 : ((k : Int) < (Q.sess.length : Int)) = True := by simpa using lq
    have lq2 : decide ((Q.sess.length : Int) ≤ (k : Int)) = false := by simp; omega
    have b1 : ((X.trace.length : Int) * ((32 : Nat) : Int) ≤ 140737488355328) = True := by simpa using smx.bt
    have smz : SmM { Y with sess := Y.sess.set k { againS (againS s) with tries := (againS s).tries }, trace := X.trace } := by rw [tw]; exact smx
    have h9 := s_sameMachine (i + 19) false true _ X smz
    rw [decide_eq_true tw] at h9
    have h10 := s_sameArena (i + 20) true true P.words Q.words smp.w0 smp.w1 smp.w2 smp.w3
    rw [decide_eq_true wq.symm] at h10
    simp only [Nat.add_assoc, Nat.reduceAdd, eM, cM, eSs, List.map_set, eS] at h2 h3 h4 h5 h6 h8 h9 h10
    have e11 : decide ((endS (endS s 2 (andI a 255)) 2 (andI b 255)).told = andI b 255) = true := decide_eq_true rfl
    refine sp_of rfl 0 (by rfl) ?_
    delta c8
    simp (config := { contextual := true, dsimp := false, implicitDefEqProofs := false, maxSteps := 5000000 }) only [e11, h2, h3, h4, h5, h6, h8, haw, h1, h1', l1, lx1, lx2, ly1, ly2, lq1, lq2, g1, ys, qs, b1, bzs_set, h9, h10, List.length_set, go_sem, Nat.reduceEqDiff, Nat.reduceAdd, Nat.reduceLeDiff, Nat.reduceMul, Nat.reduceLT, Nat.reduceBEq, Int.reduceLT, Int.reduceLE, Int.reduceToNat, Int.reduceAdd, Int.reduceSub, Int.reduceEq, Int.reduceNeg, ↓reduceIte]
end Ve
