/- The statement GrabOnly. -/
import Derived.Test.YtcipiajnabgkgaaGreatS36
import Derived.Test.YtcipiajnabgkgaaGreatS37
import Derived.Test.YtcipiajnabgkgaaGreatS38
import Derived.Test.YtcipiajnabgkgaaGreatPL10
import Derived.Test.YtcipiajnabgkgaaGreatLo2
set_option linter.all false
set_option linter.unusedSectionVars false
namespace Ve
open Go Ve.Ab
set_option maxHeartbeats 16000000
set_option maxRecDepth 20000
theorem l_GrabOnly (i k : Nat) (q : Out → St → Option Ans) (Q : V → Hp → Nat → Prop) (m A : TMach) (at_ : Nat) (s : TSess) (hs : m.sess[at_]? = some s) (hid : IntKind.wrap .i64 (s.id + 1) = s.id + 1) (g t t' : Int) (hg : g = 0 ∨ g = 1 ∨ g = 2 ∨ g = 3) (ht : 0 ≤ t ∧ t ≤ 1000)
    (ht' : t' = t + difR (m.words.get g) (A.words.get g) (m.words.get g).length) (hl4 : (m.words.get g).length ≤ 4) (hAl : (A.words.get g).length = (m.words.get g).length)
    (hw : ∀ (j : Nat) (x : TWord), (m.words.get g)[j]? = some x → ∃ y, (A.words.get g)[j]? = some y ∧ GrW s.id x y)
    (u : Dum (fun s q => evC ctx (Lv ctx i) (pureOf (Lv ctx i)) k c11_1 s (restK [1, 2, 5, 7, 8, 9] q))) (w : Dum q) (kk : Nat) (hk : 5 < kk) :
    GL 1 [1, 2, 5, 7, 8, 9] (fun s q => evC ctx (Lv ctx i) (pureOf (Lv ctx i)) k c11_1 s (restK [1, 2, 5, 7, 8, 9] q)) q kk ⟨ofLive [1, 2, 5, 7, 8, 9] [iV at_, .ip true (cM true m) 0, .ptr 0 0 0, iV t, iV g, iV 0], pO emptyHp 0 (some ⟨11, [eM true A], false⟩), 1⟩ Q u w
    = Fin (q (.exit 2) ⟨ofLive [1, 2, 5, 7, 8] [iV at_, .ip true (cM true m) 0, .ptr 0 0 0, iV t', iV g], pO emptyHp 0 (some ⟨11, [eM true A], false⟩), 1⟩) Q := by
  have e1 : (0 ≤ (at_ : Int)) = True := by simp
  have e2 : ((at_ : Int) < (m.sess.length : Int)) = True := by have := get_lt hs; simpa using this
  have key : ∀ (d j kk : Nat), j + d = (m.words.get g).length → d < kk →
    GL 1 [1, 2, 5, 7, 8, 9] (fun s q => evC ctx (Lv ctx i) (pureOf (Lv ctx i)) k c11_1 s (restK [1, 2, 5, 7, 8, 9] q)) q kk ⟨ofLive [1, 2, 5, 7, 8, 9] [iV at_, .ip true (cM true m) 0, .ptr 0 0 0, iV (t + difR (m.words.get g) (A.words.get g) j), iV g, iV j], pO emptyHp 0 (some ⟨11, [eM true A], false⟩), 1⟩ Q u w
    = Fin (q (.exit 2) ⟨ofLive [1, 2, 5, 7, 8] [iV at_, .ip true (cM true m) 0, .ptr 0 0 0, iV t', iV g], pO emptyHp 0 (some ⟨11, [eM true A], false⟩), 1⟩) Q := by
    intro d
    induction d with
    | zero =>
      intro j kk hj hk
      obtain ⟨kk, rfl⟩ : ∃ n, kk = n + 1 := ⟨kk - 1, by omega⟩
      have hj' : j = (m.words.get g).length := by omega
      subst hj'
      rw [← ht']
      have l0 : decide (((m.words.get g).length : Int) < ((A.words.get g).length : Int)) = false := by rw [hAl]; simp
      clear ht'
      rcases hg with rfl | rfl | rfl | rfl
      all_goals
        simp only [A4.get, simprocAttr] at l0 ⊢
        simp +contextual -dsimp -implicitDefEqProofs (maxSteps := 5000000) only [gLs, ↓un_c (c11_1.eq_1), l0, go_sem, simprocAttr]
    | succ d ih =>
      intro j kk hj hk
      obtain ⟨kk, rfl⟩ : ∃ n, kk = n + 1 := ⟨kk - 1, by omega⟩
      have hjl : j < (m.words.get g).length := by omega
      obtain ⟨x, hx⟩ : ∃ x, (m.words.get g)[j]? = some x := ⟨_, List.getElem?_eq_getElem hjl⟩
      obtain ⟨y, hy, hv, hver, hlk⟩ := hw j x hx
      have ih := ih (j + 1) kk (by omega) (by omega)
      have hd := dif_in (m.words.get g) (A.words.get g) j
      have l1 : ((j : Int) < ((A.words.get g).length : Int)) = True := by rw [hAl]; simpa using hjl
      have l1' : ((j : Int) < ((m.words.get g).length : Int)) = True := by simpa using hjl
      have l2 : (0 ≤ (j : Int)) = True := by simp
      have l3 := wrN j (by simp only [BB]; omega)
      have l4 : IntKind.wrap .i64 (t + difR (m.words.get g) (A.words.get g) j + 1) = t + difR (m.words.get g) (A.words.get g) j + 1 := wrap_small (by omega) (by omega)
      have v1 : decide (x.val = y.val) = true := by rw [hv]; simp
      have v2 : decide (x.ver = y.ver) = true := by rw [hver]; simp
      rcases hlk with hlk | ⟨hne, h1, h2, h3⟩ | ⟨hne, h1, h2⟩
      · have v3 : decide (x.lock = y.lock) = true := by simpa using hlk
        have hd1 : difR (m.words.get g) (A.words.get g) (j + 1) = difR (m.words.get g) (A.words.get g) j := by simp only [difR, hx, hy, Option.map_some, hlk, if_true]; omega
        rw [hd1] at ih
        clear hw ht' hd hlk hd1
        generalize difR (m.words.get g) (A.words.get g) j = D at *
        rcases hg with rfl | rfl | rfl | rfl
        all_goals
          simp only [A4.get, simprocAttr] at hx hy l1 l1' ih ⊢
          simp +contextual -dsimp -implicitDefEqProofs (maxSteps := 5000000) only [gLs, ↓un_c (c11_1.eq_1), hs, hx, hy, l1, l1', l2, l3, v1, v2, v3, go_sem, simprocAttr]
          exact (gl_normE (by rfl)).trans ih
      · have v3 : decide (x.lock = y.lock) = false := by simpa using hne
        have v4 : decide (y.lock = 0) = false := by simpa using h1
        have v5 : decide (x.lock = 0) = true := by simpa using h2
        have v6 : decide (y.lock = s.id + 1) = true := by simpa using h3
        have hd1 : difR (m.words.get g) (A.words.get g) (j + 1) = difR (m.words.get g) (A.words.get g) j + 1 := by simp only [difR, hx, hy, Option.map_some, Option.some.injEq, hne, if_false]
        rw [hd1, ← Int.add_assoc] at ih
        clear hw ht' hd hne h1 h2 h3 hd1
        generalize difR (m.words.get g) (A.words.get g) j = D at *
        rcases hg with rfl | rfl | rfl | rfl
        all_goals
          simp only [A4.get, simprocAttr] at hx hy l1 l1' ih ⊢
          simp +contextual -dsimp -implicitDefEqProofs (maxSteps := 5000000) only [gLs, ↓un_c (c11_1.eq_1), hs, hid, e1, e2, hx, hy, l1, l1', l2, l3, l4, v1, v2, v3, v4, v5, v6, go_sem, simprocAttr]
          exact (gl_normE (by rfl)).trans ih
      · have v3 : decide (x.lock = y.lock) = false := by simpa using hne
        have v4 : decide (y.lock = 0) = true := by simpa using h1
        have v6 : decide (x.lock = s.id + 1) = true := by simpa using h2
        have hd1 : difR (m.words.get g) (A.words.get g) (j + 1) = difR (m.words.get g) (A.words.get g) j + 1 := by simp only [difR, hx, hy, Option.map_some, Option.some.injEq, hne, if_false]
        rw [hd1, ← Int.add_assoc] at ih
        clear hw ht' hd hne h1 h2 hd1
        generalize difR (m.words.get g) (A.words.get g) j = D at *
        rcases hg with rfl | rfl | rfl | rfl
        all_goals
          simp only [A4.get, simprocAttr] at hx hy l1 l1' ih ⊢
          simp +contextual -dsimp -implicitDefEqProofs (maxSteps := 5000000) only [gLs, ↓un_c (c11_1.eq_1), hs, hid, e1, e2, hx, hy, l1, l1', l2, l3, l4, v1, v2, v3, v4, v6, go_sem, simprocAttr]
          exact (gl_normE (by rfl)).trans ih
  have := key (m.words.get g).length 0 kk (by omega) (by omega)
  simpa only [difR, Int.add_zero, Int.natCast_zero] using this
theorem u_GrabOnly (i : Nat) (m : TMach) (hm : SmM m) (at_ : Int) (haw : pureOf (Lv ctx (i + 23)) 31 [] = some (bV true)) : pureOf (Lv ctx (i + 24)) 11 [eM true m, iV at_] = some (bV true) := by
  have hz := w_zero (i + 20) true false
  have hz' := w_zero (i + 20) false false
  have h2 := s_grab (i + 1) true m hm at_
  simp only [Nat.add_assoc, Nat.reduceAdd] at hz hz' h2
  rcases left_cases m at_ 1 with h | ⟨k, n, s, w, rfl, hs, hM, hS, hst, hp, hn, hi, hl⟩
  · rw [grab_none h, zero_o] at h2
    refine sp_of rfl 6 (by rfl) ?_
    delta c11
    simp +contextual -dsimp -implicitDefEqProofs (maxSteps := 5000000) only [haw, h2, hz, hz', go_sem, simprocAttr]
  · obtain ⟨t, W, e0⟩ := grab_leaves hs hM hS hst hp hi
    rw [e0] at h2
    generalize (grabM m k).1 = A at h2 W
    have hk := get_lt hs
    have e1 : (0 ≤ (k : Int)) = True := by simp
    have e2 : ((k : Int) < (m.sess.length : Int)) = True := by simpa using hk
    have e3 : ((k : Int) < (A.sess.length : Int)) = True := by rw [W.slen]; exact e2
    have d1 : decide ((k : Int) < 0) = false := by simp
    have d2 : decide ((m.sess.length : Int) ≤ (k : Int)) = false := by simp; try omega
    have d3 : decide ((A.sess.length : Int) ≤ (k : Int)) = false := by rw [W.slen]; exact d2
    have hn1 : IntKind.wrap .i64 (s.at_ + 1) = s.at_ + 1 := by
      have := (hm.s s (List.mem_of_getElem? hs)).bw
      exact wrap_small (by omega) (by omega)
    have hid : IntKind.wrap .i64 (s.id + 1) = s.id + 1 := id_wrap hS.id
    have hA := W.sess
    have dd : ∀ n : Int, decide (n = n) = true := fun n => by simp
    have c0 : decide (A.clocks.a0 = m.clocks.a0) = true := by rw [W.clocks]; simp
    have c1 : decide (A.clocks.a1 = m.clocks.a1) = true := by rw [W.clocks]; simp
    have c2 : decide (A.clocks.a2 = m.clocks.a2) = true := by rw [W.clocks]; simp
    have c3 : decide (A.clocks.a3 = m.clocks.a3) = true := by rw [W.clocks]; simp
    have hfin := W.fin
    have L0 : ∀ g, inR g 3 = true → (m.words.get g).length ≤ 4 := by
      intro g hg
      have ha := hM.arena
      simp only [arenaMay, A4.all, rowMay, Bool.and_eq_true, decide_eq_true_eq] at ha
      unfold A4.get
      split
      · exact ha.1.1.1.1
      · split
        · exact ha.1.1.2.1
        · split
          · exact ha.1.2.1
          · exact ha.2.1
    have D := fun g => dif_in (m.words.get g) (A.words.get g) (m.words.get g).length
    obtain ⟨T1, hT1⟩ : ∃ T, T = 0 + difR (m.words.get 0) (A.words.get 0) (m.words.get 0).length := ⟨_, rfl⟩
    obtain ⟨T2, hT2⟩ : ∃ T, T = T1 + difR (m.words.get 1) (A.words.get 1) (m.words.get 1).length := ⟨_, rfl⟩
    obtain ⟨T3, hT3⟩ : ∃ T, T = T2 + difR (m.words.get 2) (A.words.get 2) (m.words.get 2).length := ⟨_, rfl⟩
    obtain ⟨T4, hT4⟩ : ∃ T, T = T3 + difR (m.words.get 3) (A.words.get 3) (m.words.get 3).length := ⟨_, rfl⟩
    have b0 := L0 0 rfl
    have b1 := L0 1 rfl
    have b2 := L0 2 rfl
    have b3 := L0 3 rfl
    have D0 := D 0
    have D1 := D 1
    have D2 := D 2
    have D3 := D 3
    have f0 := fun kf q Q u w kk hk => l_GrabOnly (i + 23) kf q Q m A k s hs hid 0 0 T1 (by omega) (by omega) hT1 b0 (W.len 0 rfl) (fun j x => W.word 0 j x rfl) u w kk hk
    have f1 := fun kf q Q u w kk hk => l_GrabOnly (i + 23) kf q Q m A k s hs hid 1 T1 T2 (by omega) (by omega) hT2 b1 (W.len 1 rfl) (fun j x => W.word 1 j x rfl) u w kk hk
    have f2 := fun kf q Q u w kk hk => l_GrabOnly (i + 23) kf q Q m A k s hs hid 2 T2 T3 (by omega) (by omega) hT3 b2 (W.len 2 rfl) (fun j x => W.word 2 j x rfl) u w kk hk
    have f3 := fun kf q Q u w kk hk => l_GrabOnly (i + 23) kf q Q m A k s hs hid 3 T3 T4 (by omega) (by omega) hT4 b3 (W.len 3 rfl) (fun j x => W.word 3 j x rfl) u w kk hk
    have q0 : (A.words.a0).length = m.words.a0.length := W.len 0 rfl
    have q1 : (A.words.a1).length = m.words.a1.length := W.len 1 rfl
    have q2 : (A.words.a2).length = m.words.a2.length := W.len 2 rfl
    have q3 : (A.words.a3).length = m.words.a3.length := W.len 3 rfl
    have gg := fun p => r_goodN (i + 18) p p p p false false false false m.words.a0 m.words.a1 m.words.a2 m.words.a3 hm.w0 hm.w1 hm.w2 hm.w3 0 rfl hM.arena
    simp only [Nat.add_assoc, Nat.reduceAdd] at gg
    rcases hfin with hf | ⟨hf, hsum⟩
    · have z1 : decide (t.step = 0) = true := by simpa using hf
      cases z3 : decide (T4 = 1) <;> cases z2 : decide (t.at_ = s.at_ + 1)
      all_goals
        refine sp_of rfl 12 (by rfl) ?_
        delta c11
        simp +contextual -dsimp -implicitDefEqProofs (maxSteps := 5000000) only [haw, h2, hz, hz', hs, e1, e2, e3, d1, d2, d3, hn1, hA, hid, dd, c0, c1, c2, c3, q0, q1, q2, q3, f0, f1, f2, f3, gg, z1, z2, z3, gLs 1 [1, 2, 5, 7, 8], ↓un_c (c11_2.eq_1), go_sem, simprocAttr]
        rw [gE_draw (hd := by rfl)]
        simp +contextual -dsimp -implicitDefEqProofs (maxSteps := 5000000) only [hs, e1, e2, e3, hn1, hA, dd, z1, z2, z3, go_sem, simprocAttr]
    · have z1 : decide (t.at_ = s.at_ + 1) = true := by simpa using hf
      have z2 : decide (T4 = 1) = true := by
        simp only [A4.get, simprocAttr] at hT1 hT2 hT3 hT4
        rw [decide_eq_true_eq]; omega
      refine sp_of rfl 12 (by rfl) ?_
      delta c11
      simp +contextual -dsimp -implicitDefEqProofs (maxSteps := 5000000) only [haw, h2, hz, hz', hs, e1, e2, e3, d1, d2, d3, hn1, hA, hid, dd, c0, c1, c2, c3, q0, q1, q2, q3, f0, f1, f2, f3, gg, z1, z2, gLs 1 [1, 2, 5, 7, 8], ↓un_c (c11_2.eq_1), go_sem, simprocAttr]
      rw [gE_draw (hd := by rfl)]
      simp +contextual -dsimp -implicitDefEqProofs (maxSteps := 5000000) only [hs, e1, e2, e3, hn1, hA, dd, z1, z2, go_sem, simprocAttr]
end Ve
