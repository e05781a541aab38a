/- What may be: a session, a machine. -/
import Derived.Test.YtapgmjgledahiaaGreatS6
set_option linter.all false
set_option linter.unusedSectionVars false
namespace Ve
open Go Ve.Ab
set_option maxHeartbeats 16000000
set_option maxRecDepth 10000
attribute [go_sem] Bool.and_self
theorem SmS.p {s : TSess} (h : SmS s) : s.prog.length ≤ BB := by have := h.bp; simp only [BB]; omega
theorem SmS.r {s : TSess} (h : SmS s) : s.reads.length ≤ BB := by have := h.br; simp only [BB]; omega
theorem SmS.w {s : TSess} (h : SmS s) : s.writes.length ≤ BB := by have := h.bw; simp only [BB]; omega
theorem SmM.w0 {m : TMach} (h : SmM m) : m.words.a0.length ≤ BB := by have := h.b0; simp only [BB]; omega
theorem SmM.w1 {m : TMach} (h : SmM m) : m.words.a1.length ≤ BB := by have := h.b1; simp only [BB]; omega
theorem SmM.w2 {m : TMach} (h : SmM m) : m.words.a2.length ≤ BB := by have := h.b2; simp only [BB]; omega
theorem SmM.w3 {m : TMach} (h : SmM m) : m.words.a3.length ≤ BB := by have := h.b3; simp only [BB]; omega
theorem SmM.ss {m : TMach} (h : SmM m) : m.sess.length ≤ BB := by have := h.bs; simp only [BB]; omega
theorem SmM.tr {m : TMach} (h : SmM m) : m.trace.length ≤ BB := by have := h.bt; simp only [BB]; omega
theorem s_lsess (i : Nat) (pw a b c d na nb nc nd pf : Bool) (w0 w1 w2 w3 : List TWord) (r : List V) (s : TSess) (hs : SmS s) : pureOf (Lv ctx (i + 9)) 145
    [.agg [.ip pw (.isl a na 3 (w0.map eW) :: .isl b nb 3 (w1.map eW) :: .isl c nc 3 (w2.map eW) :: .isl d nd 3 (w3.map eW) :: r) 0], eS pf s] = some (bV (sessMay ⟨w0, w1, w2, w3⟩ s)) := by
  have h1 : pureOf (Lv ctx (i + 8)) 156 [.agg [iV s.id, iV s.label, iV s.clear, .isl pf false 4 (s.prog.map eI)]] = _ := s_start (i + 3) pf false s.id s.label s.clear s.prog hs.p
  have h2 : pureOf (Lv ctx (i + 8)) 109 [.isl pf false 3 (s.reads.map eR)] = _ := s_reads (i + 4) pf false s.reads hs.r
  have h3 : pureOf (Lv ctx (i + 8)) 107 [.isl pf false 3 (s.writes.map eWr)] = _ := s_writes (i + 5) pf false s.writes hs.w
  have h4 := s_allRead (i + 4) 158 pf false pw (.isl a na 3 (w0.map eW) :: .isl b nb 3 (w1.map eW) :: .isl c nc 3 (w2.map eW) :: .isl d nd 3 (w3.map eW) :: r) 0 s.reads (fun x => wThere ⟨w0, w1, w2, w3⟩ x.level x.index) (fun _ _ _ _ _ _ => rfl) hs.r
    (fun x _ => by simp only [eR]; exact s_lread (i + 1) pw a b c d na nb nc nd w0 w1 w2 w3 r x.level x.index x.ver)
  have h5 := s_allWrite (i + 4) 160 pf false pw (.isl a na 3 (w0.map eW) :: .isl b nb 3 (w1.map eW) :: .isl c nc 3 (w2.map eW) :: .isl d nd 3 (w3.map eW) :: r) 0 s.writes (fun x => wThere ⟨w0, w1, w2, w3⟩ x.level x.index) (fun _ _ _ _ _ _ => rfl) hs.w
    (fun x _ => by simp only [eWr]; exact s_lwrite (i + 1) pw a b c d na nb nc nd w0 w1 w2 w3 r x.level x.index x.val)
  have h6 := s_allInst (i + 4) 162 pf false pw (.isl a na 3 (w0.map eW) :: .isl b nb 3 (w1.map eW) :: .isl c nc 3 (w2.map eW) :: .isl d nd 3 (w3.map eW) :: r) 0 s.prog (fun x => !(wordIs x.code) || wThere ⟨w0, w1, w2, w3⟩ x.b x.c) (fun _ _ _ _ _ _ => rfl) hs.p
    (fun x _ => by simp only [eI]; exact s_linst (i + 1) pw a b c d na nb nc nd w0 w1 w2 w3 r x.code x.a x.b x.c)
  simp only [Nat.add_assoc, Nat.reduceAdd, Nat.reduceSub] at h1 h2 h3 h4 h5 h6
  simp only [eS]
  refine sp_of rfl 0 (by rfl) ?_
  delta c145
  simp +contextual -dsimp -implicitDefEqProofs (maxSteps := 5000000) only [h1, h2, h3, h4, h5, h6, go_sem, simprocAttr]
  simp only [sessMay, readsThere, writesThere, progThere, regsMay, A4.all, all4]
theorem lt_max2 (e a b : Int) : e < max2 a b ↔ e < a ∨ e < b := by
  simp only [max2]; split <;> omega
theorem max_clock (a b c d e : Int) : (all4 65535 a b c d && inR e 65535 && !decide (e < max2 (max2 (max2 a b) c) d)) = (inR e 65535 && all4 e a b c d) := by
  rw [Bool.eq_iff_iff]
  simp only [all4, inR, lt_max2, Bool.and_eq_true, decide_eq_true_eq, Bool.not_eq_true', decide_eq_false_iff_not]
  omega
theorem l_ids (i k : Nat) (p pf : Bool) (m : TMach) (hx : m.sess.length ≤ BB) (q : Out → St → Option Ans) (Q : V → Hp → Nat → Prop) (u : Dum (fun s q => evC ctx (Lv ctx i) (pureOf (Lv ctx i)) k c116_1 s (restK [1, 38, 39] q))) (w : Dum q) : ∀ (suf pre : List TSess) (kk : Nat), m.sess = pre ++ suf → suf.length < kk →
    GL 0 [1, 38, 39] (fun s q => evC ctx (Lv ctx i) (pureOf (Lv ctx i)) k c116_1 s (restK [1, 38, 39] q)) q kk ⟨ofLive [1, 38, 39] [.ip p (cM pf m) 0, iV m.sess.length, iV pre.length], emptyHp, 0⟩ Q u w =
    boolP (idsGo (pre.getLast?.map (·.id)) suf) (Fin (q (.exit 0) ⟨ofLive [1] [.ip p (cM pf m) 0], emptyHp, 0⟩) Q) (Fin (q .ret ⟨ofLive [2] [bV false], emptyHp, 0⟩) Q)
  | [], pre, kk, hxs, hk => by
    obtain ⟨kk, rfl⟩ : ∃ m, kk = m + 1 := ⟨kk - 1, by simp at hk; omega⟩
    have h1 : decide ((pre.length : Int) < m.sess.length) = false := by simp [hxs]
    have h2 : ∀ o, idsGo o [] = true := fun o => by cases o <;> rfl
    simp +contextual -dsimp -implicitDefEqProofs (maxSteps := 5000000) only [gLs, ↓un_c (c116_1.eq_1), h1, boolP_t, h2, go_sem, simprocAttr]
  | a :: suf, pre, kk, hxs, hk => by
    obtain ⟨kk, rfl⟩ : ∃ m, kk = m + 1 := ⟨kk - 1, by simp at hk; omega⟩
    have hl : pre.length < m.sess.length := by simp [hxs]
    have h2 : ((pre.length : Int) < m.sess.length) = True := by simpa using hl
    have h3 : (0 ≤ (pre.length : Int)) = True := by simp
    have h4 := wrN pre.length (by omega)
    have hg : m.sess[pre.length]? = some a := by simp [hxs]
    have ih := l_ids i k p pf m hx q Q u w suf (pre ++ [a]) kk (by simp [hxs]) (by simpa using hk)
    rw [append_len1] at ih
    simp only [List.getLast?_append, List.getLast?_singleton, Option.some_or, Option.map_some] at ih
    rcases List.eq_nil_or_concat pre with rfl | ⟨L, v, rfl⟩
    · simp only [List.length_nil, cast0] at *
      simp only [Nat.zero_add, cast1] at ih
      simp +contextual -dsimp -implicitDefEqProofs (maxSteps := 5000000) only [gLs, ↓un_c (c116_1.eq_1), h2, h3, h4, hg, ih, idsGo, List.getLast?_nil, go_sem, simprocAttr]
    · have hlen : (L.concat v).length = L.length + 1 := by simp
      have hlast : (L.concat v).getLast? = some v := by simp
      rw [hlen] at h2 h3 h4 hg ih
      rw [hlen, hlast]
      have h6 : IntKind.wrap .i64 (((L.length + 1 : Nat) : Int) - 1) = (L.length : Int) := by
        have := wr_id (a := (L.length : Int)) (by omega) (by simp [hlen] at hl; simp only [BB] at hx; omega)
        simp only [wr] at this
        rw [show (((L.length + 1 : Nat) : Int) - 1) = (L.length : Int) by omega, this]
      have h7 : ((L.length : Int) < m.sess.length) = True := by simp only [eq_iff_iff, iff_true]; rw [hlen] at hl; omega
      have h8 : (0 ≤ (L.length : Int)) = True := by simp
      have h9 : decide (0 < ((L.length + 1 : Nat) : Int)) = true := by simp only [decide_eq_true_eq]; omega
      have hg' : m.sess[L.length]? = some v := by simp [hxs]
      by_cases hlt : v.id < a.id
      · have c1 : decide (a.id ≤ v.id) = false := by simp; omega
        have c2 : decide (v.id < a.id) = true := by simp; omega
        simp +contextual -dsimp -implicitDefEqProofs (maxSteps := 5000000) only [gLs, ↓un_c (c116_1.eq_1), h2, h3, h4, h6, h7, h8, h9, hg, hg', c1, c2, ih, idsGo, go_sem, simprocAttr]
      · have c1 : decide (a.id ≤ v.id) = true := by simp; omega
        have c2 : decide (v.id < a.id) = false := by simp; omega
        simp +contextual -dsimp -implicitDefEqProofs (maxSteps := 5000000) only [gLs, ↓un_c (c116_1.eq_1), h2, h3, h4, h6, h7, h8, h9, hg, hg', c1, c2, idsGo, boolP_f, go_sem, simprocAttr]
theorem s_may (i : Nat) (pf : Bool) (m : TMach) (hm : SmM m) : pureOf (Lv ctx (i + 19)) 116 [eM pf m] = some (bV (mayM m)) := by
  have h1 := s_allSession (i + 14) 145 pf false pf (cM pf m) 0 m.sess (sessMay m.words) (fun _ _ _ _ _ _ => rfl) hm.ss
    (fun s hs => s_lsess (i + 5) pf pf pf pf pf false false false false pf m.words.a0 m.words.a1 m.words.a2 m.words.a3 _ s (hm.s s hs))
  have h2 := s_allEvent (i + 14) 143 pf false m.trace (fun e => inR e.label 3) (fun _ _ _ _ _ _ => rfl) hm.tr (fun e _ => by simp only [eE]; exact s_event (i + 12) e.id e.label e.kind e.val)
  simp only [Nat.add_assoc, Nat.reduceAdd] at h1 h2
  refine sp_of rfl (m.sess.length + 1) (by rfl) ?_
  delta c116
  have h3 := fun q Q u w => l_ids (i + 18) (m.sess.length + 1) pf pf m hm.ss q Q u w m.sess [] (m.sess.length + 1) rfl (by omega)
  simp only [List.length_nil, Int.natCast_zero, List.getLast?_nil, Option.map_none] at h3
  have h4 := max_clock m.clocks.a0 m.clocks.a1 m.clocks.a2 m.clocks.a3 m.ceil
  have h5 : decide (4 < (m.sess.length : Int)) = !decide (m.sess.length ≤ 4) := decide_gt4 _
  have h6 : decide (512 < (m.trace.length : Int)) = !decide (m.trace.length ≤ 512) := by
    by_cases h : m.trace.length ≤ 512 <;> simp [h] <;> omega
  have key : mayM m = ((arenaMay m.words && (all4 65535 m.clocks.a0 m.clocks.a1 m.clocks.a2 m.clocks.a3 && inR m.ceil 65535) && !decide (m.ceil < max2 (max2 (max2 m.clocks.a0 m.clocks.a1) m.clocks.a2) m.clocks.a3) && decide (m.sess.length ≤ 4) && decide (m.trace.length ≤ 512)) && idsGo none m.sess && m.sess.all (sessMay m.words) && m.trace.all (fun e => inR e.label 3)) := by
    rw [Bool.and_assoc (arenaMay m.words) (all4 65535 m.clocks.a0 m.clocks.a1 m.clocks.a2 m.clocks.a3 && inR m.ceil 65535), h4]
    simp only [mayM, A4.all, all4, Bool.and_assoc]
  have hb : ∀ a b c d e : Bool, (!a || !b || c || !d || !e) = !(a && b && !c && d && e) := by decide
  have hb' := hb (arenaMay m.words) (all4 65535 m.clocks.a0 m.clocks.a1 m.clocks.a2 m.clocks.a3 && inR m.ceil 65535) (decide (m.ceil < max2 (max2 (max2 m.clocks.a0 m.clocks.a1) m.clocks.a2) m.clocks.a3)) (decide (m.sess.length ≤ 4)) (decide (m.trace.length ≤ 512))
  cases hc : (arenaMay m.words && (all4 65535 m.clocks.a0 m.clocks.a1 m.clocks.a2 m.clocks.a3 && inR m.ceil 65535) && !decide (m.ceil < max2 (max2 (max2 m.clocks.a0 m.clocks.a1) m.clocks.a2) m.clocks.a3) && decide (m.sess.length ≤ 4) && decide (m.trace.length ≤ 512)) <;> rw [hc] at hb' key
  · rw [key]
    simp +contextual -dsimp -implicitDefEqProofs (maxSteps := 5000000) only [h1, h2, h3, h5, h6, hb', go_sem, simprocAttr]
  · rw [key]
    simp +contextual -dsimp -implicitDefEqProofs (maxSteps := 5000000) only [h1, h2, h5, h6, hb', go_sem, simprocAttr]
    refine Eq.mpr (h3 _ _ _ _) ?_
    cases hi : idsGo none m.sess <;> simp +contextual -dsimp -implicitDefEqProofs (maxSteps := 5000000) only [boolP_t, boolP_f, h1, h2, go_sem, simprocAttr]
end Ve
