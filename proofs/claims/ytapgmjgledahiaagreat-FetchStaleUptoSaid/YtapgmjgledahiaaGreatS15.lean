/- What may be: the reference's machine. -/
import Derived.Test.YtapgmjgledahiaaGreatS14
set_option linter.all false
set_option linter.unusedSectionVars false
namespace Ve
open Go Ve.Ab
set_option maxHeartbeats 16000000
set_option maxRecDepth 10000
theorem r_sessMay (i : Nat) (pf ps : Bool) (m : TMach) (s : TSess) (hs : SmS s) : pureOf (Lv ctx (i + 6)) 125 [eM pf m, eS ps s] = some (bV (sessMay m.words s)) := by
  have h1 := r_start (i + 0) ps false s.id s.label s.clear s.prog hs.p
  have h2 := r_words (i + 0) ps s hs pf pf pf pf false false false false m.words.a0 m.words.a1 m.words.a2 m.words.a3
  have h3 := r_reads (i + 1) ps false s.reads hs.r
  have h4 := r_writes (i + 1) ps false s.writes hs.w
  simp only [Nat.add_assoc, Nat.reduceAdd] at h1 h2 h3 h4
  simp only [eS] at h2 ⊢
  have key : sessMay m.words s = ((startMay s.id s.label s.clear s.prog && (progThere m.words s.prog && writesThere m.words s.writes && readsThere m.words s.reads)) && (inR s.step 6 && inR s.pc s.prog.length && all4 255 s.regs.a0 s.regs.a1 s.regs.a2 s.regs.a3 && readsMay s.reads && writesMay s.writes) &&
      (inR s.at_ s.writes.length && inR s.stamp 65535 && inR s.tries 65535 && inR s.result 5 && inR s.told 255)) := by
    rw [Bool.eq_iff_iff]
    simp only [sessMay, regsMay, A4.all, all4, Bool.and_eq_true]
    constructor <;> (intro h; simp only [h, and_self])
  refine sp_of rfl 0 (by rfl) ?_
  delta c125
  have hb1 : ∀ a b : Bool, (!a || !b) = !(a && b) := by decide
  have hb2 : ∀ a b c d e : Bool, (!a || !b || !c || !d || !e) = !(a && b && c && d && e) := by decide
  rw [key]
  cases c1 : (startMay s.id s.label s.clear s.prog && (progThere m.words s.prog && writesThere m.words s.writes && readsThere m.words s.reads))
  · simp +contextual -dsimp -implicitDefEqProofs (maxSteps := 5000000) only [h1, h2, h3, h4, hb1, c1, go_sem, simprocAttr]
  · cases c2 : (inR s.step 6 && inR s.pc s.prog.length && all4 255 s.regs.a0 s.regs.a1 s.regs.a2 s.regs.a3 && readsMay s.reads && writesMay s.writes)
    · simp only [inR] at c2
      simp +contextual -dsimp -implicitDefEqProofs (maxSteps := 5000000) only [h1, h2, h3, h4, hb1, hb2, c1, c2, go_sem, simprocAttr]
    · simp only [inR] at c2
      simp +contextual -dsimp -implicitDefEqProofs (maxSteps := 5000000) only [h1, h2, h3, h4, hb1, hb2, c1, c2, go_sem, simprocAttr]
      simp only [inR]
def r2Go (ws : A4 (List TWord)) : Option Int → List TSess → Bool
  | _, [] => true
  | none, s :: t => sessMay ws s && r2Go ws (some s.id) t
  | some v, s :: t => sessMay ws s && decide (v < s.id) && r2Go ws (some s.id) t
theorem r2Go_eq (ws : A4 (List TWord)) : ∀ (l : List TSess) (o : Option Int), r2Go ws o l = (idsGo o l && l.all (sessMay ws))
  | [], o => by cases o <;> rfl
  | a :: l, none => by simp only [r2Go, idsGo, List.all_cons, r2Go_eq ws l]; cases sessMay ws a <;> cases idsGo (some a.id) l <;> simp
  | a :: l, some v => by simp only [r2Go, idsGo, List.all_cons, r2Go_eq ws l]; cases sessMay ws a <;> cases idsGo (some a.id) l <;> cases decide (v < a.id) <;> simp


theorem lr_may2 (i k : Nat) (pf : Bool) (m : TMach) (hm : SmM m) (q : Out → St → Option Ans) (Q : V → Hp → Nat → Prop) (u : Dum (fun s q => evC ctx (Lv ctx (i + 6)) (pureOf (Lv ctx (i + 6))) k c79_2 s (restK [1, 4] q))) (w : Dum q) : ∀ (suf pre : List TSess) (kk : Nat), m.sess = pre ++ suf → suf.length < kk →
    GL 0 [1, 4] (fun s q => evC ctx (Lv ctx (i + 6)) (pureOf (Lv ctx (i + 6))) k c79_2 s (restK [1, 4] q)) q kk ⟨ofLive [1, 4] [.ip pf (cM pf m) 0, iV pre.length], emptyHp, 0⟩ Q u w = boolP (r2Go m.words (pre.getLast?.map (·.id)) suf) (Fin (q (.exit 2) ⟨ofLive [1] [.ip pf (cM pf m) 0], emptyHp, 0⟩) Q) (Fin (q .ret ⟨ofLive [2] [bV false], emptyHp, 0⟩) Q)
  | [], pre, kk, hxs, hk => by
    obtain ⟨kk, rfl⟩ : ∃ m, kk = m + 1 := ⟨kk - 1, by simp at hk; omega⟩
    have h1 : decide ((pre.length : Int) < m.sess.length) = false := by simp [hxs]
    have h2 : ∀ o, r2Go m.words o [] = true := fun o => by cases o <;> rfl
    simp +contextual -dsimp -implicitDefEqProofs (maxSteps := 5000000) only [gLs, ↓un_c (c79_2.eq_1), h1, boolP_t, h2, go_sem, simprocAttr]
  | a :: suf, pre, kk, hxs, hk => by
    obtain ⟨kk, rfl⟩ : ∃ m, kk = m + 1 := ⟨kk - 1, by simp at hk; omega⟩
    have hl : pre.length < m.sess.length := by simp [hxs]
    have h2 : ((pre.length : Int) < m.sess.length) = True := by simpa using hl
    have h3 : (0 ≤ (pre.length : Int)) = True := by simp
    have h4 := wrN pre.length (by have := hm.ss; omega)
    have hg : m.sess[pre.length]? = some a := by simp [hxs]
    have hs := r_sessMay (i + 0) pf pf m a (hm.s a (by simp [hxs]))
    simp only [Nat.add_assoc, Nat.reduceAdd, eS] at hs
    have ih := lr_may2 i k pf m hm q Q u w suf (pre ++ [a]) kk (by simp [hxs]) (by simpa using hk)
    rw [append_len1] at ih
    simp only [List.getLast?_append, List.getLast?_singleton, Option.some_or, Option.map_some] at ih
    rcases List.eq_nil_or_concat pre with rfl | ⟨L, v, rfl⟩
    · simp only [List.length_nil, cast0] at *
      simp only [Nat.zero_add, cast1] at ih
      cases c1 : sessMay m.words a <;> simp +contextual -dsimp -implicitDefEqProofs (maxSteps := 5000000) only [gLs, ↓un_c (c79_2.eq_1), h2, h3, h4, hg, hs, c1, ih, r2Go, boolP_f, List.getLast?_nil, go_sem, simprocAttr]
    · have hlen : (L.concat v).length = L.length + 1 := by simp
      have hlast : (L.concat v).getLast? = some v := by simp
      rw [hlen] at h2 h3 h4 hg ih
      rw [hlen, hlast]
      have h6 : IntKind.wrap .i64 (((L.length + 1 : Nat) : Int) - 1) = (L.length : Int) := by
        have := wr_id (a := (L.length : Int)) (by omega) (by have := hm.ss; simp [hlen] at hl; simp only [BB] at this; omega)
        simp only [wr] at this
        rw [show (((L.length + 1 : Nat) : Int) - 1) = (L.length : Int) by omega, this]
      have h7 : ((L.length : Int) < m.sess.length) = True := by simp only [eq_iff_iff, iff_true]; rw [hlen] at hl; omega
      have h8 : (0 ≤ (L.length : Int)) = True := by simp
      have h9 : decide (0 < ((L.length + 1 : Nat) : Int)) = true := by simp only [decide_eq_true_eq]; omega
      have hg' : m.sess[L.length]? = some v := by simp [hxs]
      cases c1 : sessMay m.words a
      · simp +contextual -dsimp -implicitDefEqProofs (maxSteps := 5000000) only [gLs, ↓un_c (c79_2.eq_1), h2, h3, h4, hg, hs, c1, r2Go, boolP_f, go_sem, simprocAttr]
      · by_cases hlt : v.id < a.id
        · have c2 : decide (a.id ≤ v.id) = false := by simp; omega
          have c3 : decide (v.id < a.id) = true := by simp; omega
          simp +contextual -dsimp -implicitDefEqProofs (maxSteps := 5000000) only [gLs, ↓un_c (c79_2.eq_1), h2, h3, h4, h6, h7, h8, h9, hg, hg', hs, c1, c2, c3, ih, r2Go, go_sem, simprocAttr]
        · have c2 : decide (a.id ≤ v.id) = true := by simp; omega
          have c3 : decide (v.id < a.id) = false := by simp; omega
          simp +contextual -dsimp -implicitDefEqProofs (maxSteps := 5000000) only [gLs, ↓un_c (c79_2.eq_1), h2, h3, h4, h6, h7, h8, h9, hg, hg', hs, c1, c2, c3, r2Go, boolP_f, go_sem, simprocAttr]


theorem lr_may3 (i k : Nat) (pf : Bool) (m : TMach) (hm : SmM m) (q : Out → St → Option Ans) (Q : V → Hp → Nat → Prop) (u : Dum (fun s q => evC ctx (Lv ctx (i + 6)) (pureOf (Lv ctx (i + 6))) k c79_3 s (restK [1, 5] q))) (w : Dum q) : ∀ (suf pre : List TEvent) (kk : Nat), m.trace = pre ++ suf → suf.length < kk →
    GL 0 [1, 5] (fun s q => evC ctx (Lv ctx (i + 6)) (pureOf (Lv ctx (i + 6))) k c79_3 s (restK [1, 5] q)) q kk ⟨ofLive [1, 5] [.ip pf (cM pf m) 0, iV pre.length], emptyHp, 0⟩ Q u w = boolP (suf.all fun a => inR a.label 3) (Fin (q (.exit 4) ⟨ofLive [] [], emptyHp, 0⟩) Q) (Fin (q .ret ⟨ofLive [2] [bV false], emptyHp, 0⟩) Q)
  | [], pre, kk, hxs, hk => by
    obtain ⟨kk, rfl⟩ : ∃ m, kk = m + 1 := ⟨kk - 1, by simp at hk; omega⟩
    have h1 : decide ((pre.length : Int) < (m.trace).length) = false := by simp [hxs]
    simp +contextual -dsimp -implicitDefEqProofs (maxSteps := 5000000) only [gLs, ↓un_c (c79_3.eq_1), h1, boolP_t, List.all_nil, go_sem, simprocAttr]
  | a :: suf, pre, kk, hxs, hk => by
    obtain ⟨kk, rfl⟩ : ∃ m, kk = m + 1 := ⟨kk - 1, by simp at hk; omega⟩
    have hl : pre.length < (m.trace).length := by simp [hxs]
    have h2 : ((pre.length : Int) < (m.trace).length) = True := by simpa using hl
    have h3 : (0 ≤ (pre.length : Int)) = True := by simp
    have h4 := wrN pre.length (by have := hm.tr; omega)
    have hg : (m.trace)[pre.length]? = some a := by simp [hxs]
    have hmem : a ∈ m.trace := by simp [hxs]
    have ih := lr_may3 i k pf m hm q Q u w suf (pre ++ [a]) kk (by simp [hxs]) (by simpa using hk)
    rw [append_len1] at ih
    simp only [List.all_cons]
    cases hb : (inR a.label 3)
    · rw [Bool.false_and]
      repeat simp +contextual -dsimp -implicitDefEqProofs (maxSteps := 5000000) only [gLs, ↓un_c (c79_3.eq_1), h2, h3, h4, hg, hb, boolP_f, go_sem, simprocAttr]
    · rw [Bool.true_and]
      repeat simp +contextual -dsimp -implicitDefEqProofs (maxSteps := 5000000) only [gLs, ↓un_c (c79_3.eq_1), h2, h3, h4, hg, hb, ih, go_sem, simprocAttr]


theorem r_may (i : Nat) (pf : Bool) (m : TMach) (hm : SmM m) : pureOf (Lv ctx (i + 7)) 79 [eM pf m] = some (bV (mayM m)) := by
  have ha := r_arena (i + 2) pf pf pf pf false false false false m.words.a0 m.words.a1 m.words.a2 m.words.a3 hm.w0 hm.w1 hm.w2 hm.w3
  have h2 := fun q Q u w => lr_may2 i (m.sess.length + m.trace.length + 5) pf m hm q Q u w m.sess [] (m.sess.length + m.trace.length + 5) rfl (by omega)
  have h3 := fun q Q u w => lr_may3 i (m.sess.length + m.trace.length + 5) pf m hm q Q u w m.trace [] (m.sess.length + m.trace.length + 5) rfl (by omega)
  simp only [Nat.add_assoc, Nat.reduceAdd] at ha
  simp only [List.length_nil, Int.natCast_zero, List.getLast?_nil, Option.map_none, r2Go_eq] at h2 h3
  have h5 : decide (4 < (m.sess.length : Int)) = !decide (m.sess.length ≤ 4) := decide_gt4 _
  have h6 : decide (512 < (m.trace.length : Int)) = !decide (m.trace.length ≤ 512) := by
    by_cases h : m.trace.length ≤ 512 <;> simp [h] <;> omega
  have hb : ∀ a b c d : Bool, (!a || !b || !c || !d) = !(a && b && c && d) := by decide
  have ho := fun q k s Q u w => gLs 0 [1, 3] (fun s q => evC ctx (Lv ctx (i + 6)) (pureOf (Lv ctx (i + 6))) (m.sess.length + m.trace.length + 5) c79_1 s (restK [1, 3] q)) q k s Q u w
  refine sp_of rfl (m.sess.length + m.trace.length + 5) (by rfl) ?_
  delta c79
  cases c1 : (arenaMay m.words && inR m.ceil 65535 && decide (m.sess.length ≤ 4) && decide (m.trace.length ≤ 512))
  · have key : mayM m = false := by
      rw [← Bool.not_eq_true] at c1 ⊢
      intro h
      simp only [mayM, Bool.and_eq_true] at h c1
      exact c1 (by simp only [h, and_self])
    simp +contextual -dsimp -implicitDefEqProofs (maxSteps := 5000000) only [ha, h5, h6, hb, c1, key, go_sem, simprocAttr]
  · have key : mayM m = (m.clocks.all (fun c => inR c m.ceil) && (idsGo none m.sess && m.sess.all (sessMay m.words)) && m.trace.all (fun e => inR e.label 3)) := by
      rw [Bool.eq_iff_iff]
      simp only [Bool.and_eq_true] at c1
      simp only [mayM, Bool.and_eq_true, c1, true_and, and_true]
      constructor <;> (intro h; simp only [h, and_self])
    rw [key]
    have hf : ∀ a b : Int, (decide (0 ≤ a) && decide (a ≤ b)) = inR a b := fun _ _ => (rfl)
    cases d0 : inR m.clocks.a0 m.ceil
    · simp +contextual -dsimp -implicitDefEqProofs (maxSteps := 5000000) only [ha, h5, h6, hb, c1, ho, ↓un_c (c79_1.eq_1), A4.all, hf, d0, go_sem, simprocAttr]
    · cases d1 : inR m.clocks.a1 m.ceil
      · simp +contextual -dsimp -implicitDefEqProofs (maxSteps := 5000000) only [ha, h5, h6, hb, c1, ho, ↓un_c (c79_1.eq_1), A4.all, hf, d0, d1, go_sem, simprocAttr]
      · cases d2 : inR m.clocks.a2 m.ceil
        · simp +contextual -dsimp -implicitDefEqProofs (maxSteps := 5000000) only [ha, h5, h6, hb, c1, ho, ↓un_c (c79_1.eq_1), A4.all, hf, d0, d1, d2, go_sem, simprocAttr]
        · cases d3 : inR m.clocks.a3 m.ceil
          · simp +contextual -dsimp -implicitDefEqProofs (maxSteps := 5000000) only [ha, h5, h6, hb, c1, ho, ↓un_c (c79_1.eq_1), A4.all, hf, d0, d1, d2, d3, go_sem, simprocAttr]
          · simp +contextual -dsimp -implicitDefEqProofs (maxSteps := 5000000) only [ha, h5, h6, hb, c1, ho, ↓un_c (c79_1.eq_1), A4.all, hf, d0, d1, d2, d3, go_sem, simprocAttr]
            refine Eq.mpr (h2 _ _ _ _) ?_
            cases e2 : (idsGo none m.sess && m.sess.all (sessMay m.words))
            · simp +contextual -dsimp -implicitDefEqProofs (maxSteps := 5000000) only [boolP_f, go_sem, simprocAttr]
            · simp +contextual -dsimp -implicitDefEqProofs (maxSteps := 5000000) only [boolP_t, go_sem, simprocAttr]
              refine Eq.mpr (h3 _ _ _ _) ?_
              cases e3 : (m.trace.all fun a => inR a.label 3) <;> simp +contextual -dsimp -implicitDefEqProofs (maxSteps := 5000000) only [boolP_t, boolP_f, go_sem, simprocAttr]
theorem r_here (i : Nat) (pf : Bool) (m : TMach) (at_ : Int) (hm : SmM m) : pureOf (Lv ctx (i + 8)) 43 [eM pf m, iV at_] = some (bV (hereM m at_)) := by
  have h1 := r_may i pf m hm
  refine sp_of rfl 0 (by rfl) ?_
  delta c43
  simp +contextual -dsimp -implicitDefEqProofs (maxSteps := 5000000) only [h1, hereM, go_sem, simprocAttr]
end Ve
