/- What may be: the reference's. -/
import Derived.Test.YtapgmjgledahiaaGreatS11
set_option linter.all false
set_option linter.unusedSectionVars false
namespace Ve
open Go Ve.Ab
set_option maxHeartbeats 16000000
set_option maxRecDepth 100000
@[go_sem] theorem r_there (i : Nat) (a b c d na nb nc nd : Bool) (w0 w1 w2 w3 : List TWord) (l x : Int) : pureOf (Lv ctx (i + 3)) 92 [.agg [.isl a na 3 (w0.map eW), .isl b nb 3 (w1.map eW), .isl c nc 3 (w2.map eW), .isl d nd 3 (w3.map eW)], iV l, iV x] = some (bV (wThere ⟨w0, w1, w2, w3⟩ l x)) := by
  rcases lab_cases l with rfl | rfl | rfl | rfl | h <;> refine sp_of rfl 0 (by rfl) ?_ <;> delta c92
  case inr.inr.inr.inr => simp +contextual -dsimp -implicitDefEqProofs (maxSteps := 5000000) only [wThere, h, go_sem, simprocAttr]
  all_goals simp +contextual -dsimp -implicitDefEqProofs (maxSteps := 5000000) only [wThere, A4.get, go_sem, simprocAttr]
@[go_sem] theorem r_regsMay (i : Nat) (a b c d : Int) : pureOf (Lv ctx (i + 3)) 151 [.agg [iV a, iV b, iV c, iV d]] = some (bV (all4 255 a b c d)) := by
  refine sp_of rfl 5 (by rfl) ?_
  delta c151
  simp +contextual -dsimp -implicitDefEqProofs (maxSteps := 5000000) only [gLs, ↓un_c (c151_1.eq_1), all4, go_sem, simprocAttr]
  cases inR a 255 <;> cases inR b 255 <;> cases inR c 255 <;> cases inR d 255 <;> simp_all
theorem rowMay_all (ws : List TWord) : rowMay ws = (decide (ws.length ≤ 4) && ws.all wordMay) := rfl


theorem lr_rthere (i k : Nat) (xs : List TRead) (hx : xs.length ≤ BB) (pf nn : Bool) (pa b c d na nb nc nd : Bool) (w0 w1 w2 w3 : List TWord) (q : Out → St → Option Ans) (Q : V → Hp → Nat → Prop) (u : Dum (fun s q => evC ctx (Lv ctx (i + 3)) (pureOf (Lv ctx (i + 3))) k c55_1 s (restK [1, 2, 5] q))) (w : Dum q) : ∀ (suf pre : List TRead) (kk : Nat), xs = pre ++ suf → suf.length < kk →
    GL 0 [1, 2, 5] (fun s q => evC ctx (Lv ctx (i + 3)) (pureOf (Lv ctx (i + 3))) k c55_1 s (restK [1, 2, 5] q)) q kk ⟨ofLive [1, 2, 5] [.isl pf nn 3 (xs.map eR), .ip (pa && (b && (c && d))) [.isl pa na 3 (w0.map eW), .isl b nb 3 (w1.map eW), .isl c nc 3 (w2.map eW), .isl d nd 3 (w3.map eW)] 0, iV pre.length], emptyHp, 0⟩ Q u w = boolP (suf.all fun a => wThere ⟨w0, w1, w2, w3⟩ a.level a.index) (Fin (q (.exit 0) ⟨ofLive [] [], emptyHp, 0⟩) Q) (Fin (q .ret ⟨ofLive [4] [bV false], emptyHp, 0⟩) Q)
  | [], pre, kk, hxs, hk => by
    obtain ⟨kk, rfl⟩ : ∃ m, kk = m + 1 := ⟨kk - 1, by simp at hk; omega⟩
    have h1 : decide ((pre.length : Int) < (xs).length) = false := by simp [hxs]
    simp +contextual -dsimp -implicitDefEqProofs (maxSteps := 5000000) only [gLs, ↓un_c (c55_1.eq_1), h1, boolP_t, List.all_nil, go_sem, simprocAttr]
  | a :: suf, pre, kk, hxs, hk => by
    obtain ⟨kk, rfl⟩ : ∃ m, kk = m + 1 := ⟨kk - 1, by simp at hk; omega⟩
    have hl : pre.length < (xs).length := by simp [hxs]
    have h2 : ((pre.length : Int) < (xs).length) = True := by simpa using hl
    have h3 : (0 ≤ (pre.length : Int)) = True := by simp
    have h4 := wrN pre.length (by have := hx; omega)
    have hg : (xs)[pre.length]? = some a := by simp [hxs]
    have hmem : a ∈ xs := by simp [hxs]
    have ih := lr_rthere i k xs hx pf nn pa b c d na nb nc nd w0 w1 w2 w3 q Q u w suf (pre ++ [a]) kk (by simp [hxs]) (by simpa using hk)
    rw [append_len1] at ih
    simp only [List.all_cons]
    cases hb : (wThere ⟨w0, w1, w2, w3⟩ a.level a.index)
    · rw [Bool.false_and]
      repeat simp +contextual -dsimp -implicitDefEqProofs (maxSteps := 5000000) only [gLs, ↓un_c (c55_1.eq_1), h2, h3, h4, hg, hb, boolP_f, go_sem, simprocAttr]
    · rw [Bool.true_and]
      repeat simp +contextual -dsimp -implicitDefEqProofs (maxSteps := 5000000) only [gLs, ↓un_c (c55_1.eq_1), h2, h3, h4, hg, hb, ih, go_sem, simprocAttr]


theorem r_rthere (i : Nat) (pf nn : Bool) (xs : List TRead) (hx : xs.length ≤ BB) (a b c d na nb nc nd : Bool) (w0 w1 w2 w3 : List TWord) : pureOf (Lv ctx (i + 4)) 55 [.agg [.isl a na 3 (w0.map eW), .isl b nb 3 (w1.map eW), .isl c nc 3 (w2.map eW), .isl d nd 3 (w3.map eW)], .isl pf nn 3 (xs.map eR)] = some (bV (readsThere ⟨w0, w1, w2, w3⟩ xs)) := by
  refine sp_of rfl (xs.length + 1) (by rfl) ?_
  delta c55
  have h2 := fun q Q u w => lr_rthere i (xs.length + 1) xs hx pf nn a b c d na nb nc nd w0 w1 w2 w3 q Q u w xs [] (xs.length + 1) rfl (by omega)
  simp only [List.length_nil, Int.natCast_zero] at h2
  simp +contextual -dsimp -implicitDefEqProofs (maxSteps := 5000000) only [readsThere, go_sem, simprocAttr]
  refine Eq.mpr (h2 _ _ _ _) ?_
  cases hb : (xs.all fun a => wThere ⟨w0, w1, w2, w3⟩ a.level a.index) <;> simp +contextual -dsimp -implicitDefEqProofs (maxSteps := 5000000) only [boolP_t, boolP_f, go_sem, simprocAttr]


theorem lr_words1 (i k : Nat) (ps : Bool) (s : TSess) (hs : SmS s) (pa b c d na nb nc nd : Bool) (w0 w1 w2 w3 : List TWord) (q : Out → St → Option Ans) (Q : V → Hp → Nat → Prop) (u : Dum (fun s q => evC ctx (Lv ctx (i + 4)) (pureOf (Lv ctx (i + 4))) k c150_1 s (restK [2, 3, 5] q))) (w : Dum q) : ∀ (suf pre : List TInst) (kk : Nat), s.prog = pre ++ suf → suf.length < kk →
    GL 0 [2, 3, 5] (fun s q => evC ctx (Lv ctx (i + 4)) (pureOf (Lv ctx (i + 4))) k c150_1 s (restK [2, 3, 5] q)) q kk ⟨ofLive [2, 3, 5] [.ip (pa && (b && (c && d))) [.isl pa na 3 (w0.map eW), .isl b nb 3 (w1.map eW), .isl c nc 3 (w2.map eW), .isl d nd 3 (w3.map eW)] 0, .ip ps [iV s.id, iV s.label, iV s.clear, eIs ps s.prog, iV s.step, iV s.pc, iV s.regs.a0, iV s.regs.a1, iV s.regs.a2, iV s.regs.a3, eRs ps s.reads, eWrs ps s.writes, iV s.at_, iV s.stamp, iV s.tries, iV s.result, iV s.told] 0, iV pre.length], emptyHp, 0⟩ Q u w = boolP (suf.all fun a => !(wordIs a.code) || wThere ⟨w0, w1, w2, w3⟩ a.b a.c) (Fin (q (.exit 0) ⟨ofLive [2, 3] [.ip (pa && (b && (c && d))) [.isl pa na 3 (w0.map eW), .isl b nb 3 (w1.map eW), .isl c nc 3 (w2.map eW), .isl d nd 3 (w3.map eW)] 0, .ip ps [iV s.id, iV s.label, iV s.clear, eIs ps s.prog, iV s.step, iV s.pc, iV s.regs.a0, iV s.regs.a1, iV s.regs.a2, iV s.regs.a3, eRs ps s.reads, eWrs ps s.writes, iV s.at_, iV s.stamp, iV s.tries, iV s.result, iV s.told] 0], emptyHp, 0⟩) Q) (Fin (q .ret ⟨ofLive [4] [bV false], emptyHp, 0⟩) Q)
  | [], pre, kk, hxs, hk => by
    obtain ⟨kk, rfl⟩ : ∃ m, kk = m + 1 := ⟨kk - 1, by simp at hk; omega⟩
    have h1 : decide ((pre.length : Int) < (s.prog).length) = false := by simp [hxs]
    simp +contextual -dsimp -implicitDefEqProofs (maxSteps := 5000000) only [gLs, ↓un_c (c150_1.eq_1), h1, boolP_t, List.all_nil, go_sem, simprocAttr]
  | a :: suf, pre, kk, hxs, hk => by
    obtain ⟨kk, rfl⟩ : ∃ m, kk = m + 1 := ⟨kk - 1, by simp at hk; omega⟩
    have hl : pre.length < (s.prog).length := by simp [hxs]
    have h2 : ((pre.length : Int) < (s.prog).length) = True := by simpa using hl
    have h3 : (0 ≤ (pre.length : Int)) = True := by simp
    have h4 := wrN pre.length (by have := hs.p; omega)
    have hg : (s.prog)[pre.length]? = some a := by simp [hxs]
    have hmem : a ∈ s.prog := by simp [hxs]
    have hw : (decide (a.code = 2) || decide (a.code = 3)) = wordIs a.code := (rfl)
    have ih := lr_words1 i k ps s hs pa b c d na nb nc nd w0 w1 w2 w3 q Q u w suf (pre ++ [a]) kk (by simp [hxs]) (by simpa using hk)
    rw [append_len1] at ih
    simp only [List.all_cons]
    cases hwi : wordIs a.code
    · rw [show (!false || wThere ⟨w0, w1, w2, w3⟩ a.b a.c) = true from rfl, Bool.true_and]
      simp +contextual -dsimp -implicitDefEqProofs (maxSteps := 5000000) only [gLs, ↓un_c (c150_1.eq_1), h2, h3, h4, hg, hw, hwi, ih, go_sem, simprocAttr]
    · rw [show (!true || wThere ⟨w0, w1, w2, w3⟩ a.b a.c) = wThere ⟨w0, w1, w2, w3⟩ a.b a.c from rfl]
      cases hb : wThere ⟨w0, w1, w2, w3⟩ a.b a.c
      · rw [Bool.false_and]
        simp +contextual -dsimp -implicitDefEqProofs (maxSteps := 5000000) only [gLs, ↓un_c (c150_1.eq_1), h2, h3, h4, hg, hw, hwi, hb, boolP_f, go_sem, simprocAttr]
      · rw [Bool.true_and]
        simp +contextual -dsimp -implicitDefEqProofs (maxSteps := 5000000) only [gLs, ↓un_c (c150_1.eq_1), h2, h3, h4, hg, hw, hwi, hb, ih, go_sem, simprocAttr]


theorem lr_words2 (i k : Nat) (ps : Bool) (s : TSess) (hs : SmS s) (pa b c d na nb nc nd : Bool) (w0 w1 w2 w3 : List TWord) (q : Out → St → Option Ans) (Q : V → Hp → Nat → Prop) (u : Dum (fun s q => evC ctx (Lv ctx (i + 4)) (pureOf (Lv ctx (i + 4))) k c150_2 s (restK [2, 3, 7] q))) (w : Dum q) : ∀ (suf pre : List TWrite) (kk : Nat), s.writes = pre ++ suf → suf.length < kk →
    GL 0 [2, 3, 7] (fun s q => evC ctx (Lv ctx (i + 4)) (pureOf (Lv ctx (i + 4))) k c150_2 s (restK [2, 3, 7] q)) q kk ⟨ofLive [2, 3, 7] [.ip (pa && (b && (c && d))) [.isl pa na 3 (w0.map eW), .isl b nb 3 (w1.map eW), .isl c nc 3 (w2.map eW), .isl d nd 3 (w3.map eW)] 0, .ip ps [iV s.id, iV s.label, iV s.clear, eIs ps s.prog, iV s.step, iV s.pc, iV s.regs.a0, iV s.regs.a1, iV s.regs.a2, iV s.regs.a3, eRs ps s.reads, eWrs ps s.writes, iV s.at_, iV s.stamp, iV s.tries, iV s.result, iV s.told] 0, iV pre.length], emptyHp, 0⟩ Q u w = boolP (suf.all fun a => wThere ⟨w0, w1, w2, w3⟩ a.level a.index) (Fin (q (.exit 2) ⟨ofLive [2, 3] [.ip (pa && (b && (c && d))) [.isl pa na 3 (w0.map eW), .isl b nb 3 (w1.map eW), .isl c nc 3 (w2.map eW), .isl d nd 3 (w3.map eW)] 0, .ip ps [iV s.id, iV s.label, iV s.clear, eIs ps s.prog, iV s.step, iV s.pc, iV s.regs.a0, iV s.regs.a1, iV s.regs.a2, iV s.regs.a3, eRs ps s.reads, eWrs ps s.writes, iV s.at_, iV s.stamp, iV s.tries, iV s.result, iV s.told] 0], emptyHp, 0⟩) Q) (Fin (q .ret ⟨ofLive [4] [bV false], emptyHp, 0⟩) Q)
  | [], pre, kk, hxs, hk => by
    obtain ⟨kk, rfl⟩ : ∃ m, kk = m + 1 := ⟨kk - 1, by simp at hk; omega⟩
    have h1 : decide ((pre.length : Int) < (s.writes).length) = false := by simp [hxs]
    simp +contextual -dsimp -implicitDefEqProofs (maxSteps := 5000000) only [gLs, ↓un_c (c150_2.eq_1), h1, boolP_t, List.all_nil, go_sem, simprocAttr]
  | a :: suf, pre, kk, hxs, hk => by
    obtain ⟨kk, rfl⟩ : ∃ m, kk = m + 1 := ⟨kk - 1, by simp at hk; omega⟩
    have hl : pre.length < (s.writes).length := by simp [hxs]
    have h2 : ((pre.length : Int) < (s.writes).length) = True := by simpa using hl
    have h3 : (0 ≤ (pre.length : Int)) = True := by simp
    have h4 := wrN pre.length (by have := hs.w; omega)
    have hg : (s.writes)[pre.length]? = some a := by simp [hxs]
    have hmem : a ∈ s.writes := by simp [hxs]
    have ih := lr_words2 i k ps s hs pa b c d na nb nc nd w0 w1 w2 w3 q Q u w suf (pre ++ [a]) kk (by simp [hxs]) (by simpa using hk)
    rw [append_len1] at ih
    simp only [List.all_cons]
    cases hb : (wThere ⟨w0, w1, w2, w3⟩ a.level a.index)
    · rw [Bool.false_and]
      repeat simp +contextual -dsimp -implicitDefEqProofs (maxSteps := 5000000) only [gLs, ↓un_c (c150_2.eq_1), h2, h3, h4, hg, hb, boolP_f, go_sem, simprocAttr]
    · rw [Bool.true_and]
      repeat simp +contextual -dsimp -implicitDefEqProofs (maxSteps := 5000000) only [gLs, ↓un_c (c150_2.eq_1), h2, h3, h4, hg, hb, ih, go_sem, simprocAttr]


theorem r_words (i : Nat) (ps : Bool) (s : TSess) (hs : SmS s) (a b c d na nb nc nd : Bool) (w0 w1 w2 w3 : List TWord) : pureOf (Lv ctx (i + 5)) 150 [.agg [.isl a na 3 (w0.map eW), .isl b nb 3 (w1.map eW), .isl c nc 3 (w2.map eW), .isl d nd 3 (w3.map eW)], eS ps s] = some (bV (progThere ⟨w0, w1, w2, w3⟩ s.prog && writesThere ⟨w0, w1, w2, w3⟩ s.writes && readsThere ⟨w0, w1, w2, w3⟩ s.reads)) := by
  have hr := r_rthere (i + 0) ps false s.reads hs.r a b c d na nb nc nd w0 w1 w2 w3
  simp only [Nat.add_assoc, Nat.reduceAdd] at hr
  simp only [eS]
  refine sp_of rfl (s.prog.length + s.writes.length + 1) (by rfl) ?_
  delta c150
  have h1 := fun q Q u w => lr_words1 i (s.prog.length + s.writes.length + 1) ps s hs a b c d na nb nc nd w0 w1 w2 w3 q Q u w s.prog [] (s.prog.length + s.writes.length + 1) rfl (by omega)
  have h2 := fun q Q u w => lr_words2 i (s.prog.length + s.writes.length + 1) ps s hs a b c d na nb nc nd w0 w1 w2 w3 q Q u w s.writes [] (s.prog.length + s.writes.length + 1) rfl (by omega)
  simp only [List.length_nil, Int.natCast_zero] at h1 h2
  simp +contextual -dsimp -implicitDefEqProofs (maxSteps := 5000000) only [Bool.and_self, progThere, writesThere, go_sem, simprocAttr]
  refine Eq.mpr (h1 _ _ _ _) ?_
  cases hb : (s.prog.all fun a => !(wordIs a.code) || wThere ⟨w0, w1, w2, w3⟩ a.b a.c)
  · simp +contextual -dsimp -implicitDefEqProofs (maxSteps := 5000000) only [boolP_f, go_sem, simprocAttr]
  · simp +contextual -dsimp -implicitDefEqProofs (maxSteps := 5000000) only [boolP_t, go_sem, simprocAttr]
    refine Eq.mpr (h2 _ _ _ _) ?_
    cases hb' : (s.writes.all fun a => wThere ⟨w0, w1, w2, w3⟩ a.level a.index) <;> simp +contextual -dsimp -implicitDefEqProofs (maxSteps := 5000000) only [boolP_t, boolP_f, hr, go_sem, simprocAttr]

end Ve
