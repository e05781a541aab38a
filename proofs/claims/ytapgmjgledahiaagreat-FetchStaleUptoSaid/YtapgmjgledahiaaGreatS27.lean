/- The reference's writing back. -/
import Derived.Test.YtapgmjgledahiaaGreatS21
import Derived.Test.YtapgmjgledahiaaGreatVeP
import Derived.Test.YtapgmjgledahiaaGreatVeN
set_option linter.all false
set_option linter.unusedSectionVars false
namespace Ve
open Go Ve.Ab
set_option maxHeartbeats 16000000
set_option maxRecDepth 10000
theorem r_left (i : Nat) (pf : Bool) (m : TMach) (hm : SmM m) (at_ st : Int) : pureOf (Lv ctx (i + 9)) 100 [eM pf m, iV at_, iV st] = some (bV (leftM m at_ st).isSome) := by
  have qh := r_here (i + 0) pf m at_ hm
  simp only [Nat.add_assoc, Nat.reduceAdd] at qh
  cases lf_cases m at_ st with
  | no h =>
    rw [left_none (curS_no h)]
    refine sp_of rfl 0 (by rfl) ?_
    delta c100
    cases pf <;> simp +contextual -dsimp -implicitDefEqProofs (maxSteps := 5000000) only [qh, h, Option.isSome_none, go_sem, simprocAttr]
  | off k s e0 hs hM hS hst =>
    subst e0
    rw [left_none (curS_off hs hM hst)]
    have hh := here_k hs hM
    have hk := get_lt hs
    have e1 : (0 ≤ (k : Int)) = True := by simp
    have e2 : ((k : Int) < (m.sess.length : Int)) = True := by simpa using hk
    have z0 : decide (s.step = st) = false := by simpa using hst
    refine sp_of rfl 0 (by rfl) ?_
    delta c100
    cases pf <;> simp +contextual -dsimp -implicitDefEqProofs (maxSteps := 5000000) only [qh, hh, hs, e1, e2, z0, Option.isSome_none, go_sem, simprocAttr]
  | fin k s e0 hs hM hS hst hp =>
    subst e0
    rw [left_fin hs hM hst hp]
    have hh := here_k hs hM
    have hk := get_lt hs
    have e1 : (0 ≤ (k : Int)) = True := by simp
    have e2 : ((k : Int) < (m.sess.length : Int)) = True := by simpa using hk
    have z0 : decide (s.step = st) = true := by simpa using hst
    have z1 : decide ((s.writes.length : Int) < (s.writes.length : Int)) = false := by simp
    refine sp_of rfl 0 (by rfl) ?_
    delta c100
    cases pf <;> simp +contextual -dsimp -implicitDefEqProofs (maxSteps := 5000000) only [qh, hh, hs, e1, e2, z0, hp, z1, Option.isSome_none, Option.isSome_some, go_sem, simprocAttr]
  | on k n s w e0 hs hM hS hst hp hn hi =>
    subst e0
    rw [left_on hs hM hst hp hi]
    have hh := here_k hs hM
    have hk := get_lt hs
    have e1 : (0 ≤ (k : Int)) = True := by simp
    have e2 : ((k : Int) < (m.sess.length : Int)) = True := by simpa using hk
    have z0 : decide (s.step = st) = true := by simpa using hst
    have z1 : decide ((n : Int) < (s.writes.length : Int)) = true := by simpa using hn
    refine sp_of rfl 0 (by rfl) ?_
    delta c100
    cases pf <;> simp +contextual -dsimp -implicitDefEqProofs (maxSteps := 5000000) only [qh, hh, hs, e1, e2, z0, hp, z1, Option.isSome_none, Option.isSome_some, go_sem, simprocAttr]
theorem setA_0 {α : Type} (ws : A4 (List α)) (i : Int) (w : α) : setA ws 0 i w = ⟨ws.a0.set i.toNat w, ws.a1, ws.a2, ws.a3⟩ := rfl
theorem setA_1 {α : Type} (ws : A4 (List α)) (i : Int) (w : α) : setA ws 1 i w = ⟨ws.a0, ws.a1.set i.toNat w, ws.a2, ws.a3⟩ := rfl
theorem setA_2 {α : Type} (ws : A4 (List α)) (i : Int) (w : α) : setA ws 2 i w = ⟨ws.a0, ws.a1, ws.a2.set i.toNat w, ws.a3⟩ := rfl
theorem setA_3 {α : Type} (ws : A4 (List α)) (i : Int) (w : α) : setA ws 3 i w = ⟨ws.a0, ws.a1, ws.a2, ws.a3.set i.toNat w⟩ := rfl
/-- a write's word, there -/
theorem word_at {m : TMach} (hM : MayP m) {s : TSess} (hS : SP m.words s) {n : Nat} {w : TWrite} (hi : s.writes[n]? = some w) : ∃ (j : Nat) (g : TWord), w.index = (j : Int) ∧ (m.words.get w.level)[j]? = some g ∧ wordMay g = true ∧ (w.level = 0 ∨ w.level = 1 ∨ w.level = 2 ∨ w.level = 3) ∧ inR w.val 255 = true := by
  obtain ⟨h1, h2⟩ := wth_write hS hi
  simp only [wThere, Bool.and_eq_true, decide_eq_true_eq] at h1
  obtain ⟨⟨h1, h3⟩, h4⟩ := h1
  simp only [write1, Bool.and_eq_true] at h2
  have hj : w.index.toNat < (m.words.get w.level).length := by omega
  refine ⟨w.index.toNat, (m.words.get w.level)[w.index.toNat], by omega, by simp [hj], ?_, ?_, h2.2⟩
  · have ha := hM.arena
    have hmem : (m.words.get w.level)[w.index.toNat] ∈ m.words.get w.level := List.getElem_mem hj
    simp only [arenaMay, A4.all, rowMay, Bool.and_eq_true, List.all_eq_true, decide_eq_true_eq] at ha
    generalize (m.words.get w.level)[w.index.toNat] = g at hmem
    unfold A4.get at hmem
    obtain ⟨⟨⟨a0, a1⟩, a2⟩, a3⟩ := ha
    split at hmem
    · exact a0.2 g hmem
    · split at hmem
      · exact a1.2 g hmem
      · split at hmem
        · exact a2.2 g hmem
        · exact a3.2 g hmem
  · rcases lab_cases w.level with h | h | h | h | h
    · exact .inl h
    · exact .inr (.inl h)
    · exact .inr (.inr (.inl h))
    · exact .inr (.inr (.inr h))
    · rw [h1] at h; cases h
theorem sm_setA {m : TMach} (hm : SmM m) (l i : Int) (g : TWord) : SmM (setW m l i g) := by
  have : ∀ (ws : A4 (List TWord)), ((setA ws l i g).a0.length = ws.a0.length ∧ (setA ws l i g).a1.length = ws.a1.length ∧ (setA ws l i g).a2.length = ws.a2.length ∧ (setA ws l i g).a3.length = ws.a3.length) := by
    intro ws
    unfold setA A4.set A4.get
    split
    · simp
    · split
      · simp
      · split <;> simp
  obtain ⟨h0, h1, h2, h3⟩ := this m.words
  exact ⟨by simp only [setW, h0]; exact hm.b0, by simp only [setW, h1]; exact hm.b1, by simp only [setW, h2]; exact hm.b2, by simp only [setW, h3]; exact hm.b3, hm.bs, hm.bt, hm.s⟩
theorem sm_setS {m : TMach} (hm : SmM m) (k : Nat) {s : TSess} (hs : SmS s) : SmM (setS m k s) := by
  refine ⟨hm.b0, hm.b1, hm.b2, hm.b3, by simp only [setS, List.length_set]; exact hm.bs, hm.bt, fun x hx => ?_⟩
  rcases List.mem_or_eq_of_mem_set hx with h | h
  · exact hm.s x h
  · rw [h]; exact hs
theorem sm_wrote {m : TMach} (hm : SmM m) {k : Nat} {s : TSess} (hs : m.sess[k]? = some s) (w : TWrite) : SmM (wroteM m k s w) := by
  have h := hm.s s (List.mem_of_getElem? hs)
  exact sm_setS (sm_setA hm _ _ _) _ ⟨h.bp, h.br, h.bw⟩
theorem write_ok {g : TWord} (hg : wordMay g = true) {v c : Int} (hv : inR v 255 = true) (hc : inR c 65535 = true) : writeW g v c = (⟨v, c, 0⟩, 0) := by
  have : wordMay ⟨v, c, 0⟩ = true := by simp only [wordMay, hv, hc]; rfl
  unfold writeW; rw [hg, this]; rfl
theorem back_none {m : TMach} {at_ : Int} (h : leftM m at_ 4 = none) : backM m at_ = (zeroM, 2100) := by unfold backM; rw [h]
theorem back_last {m : TMach} {at_ : Int} {s : TSess} {w : TWrite} (h : leftM m at_ 4 = some (s, w)) (hl : s.at_ + 1 = s.writes.length) : backM m at_ = endM (wroteM m at_ s w) at_ 1 0 := by unfold backM; rw [h]; simp only [hl, if_true]
theorem back_more {m : TMach} {at_ : Int} {s : TSess} {w : TWrite} (h : leftM m at_ 4 = some (s, w)) (hl : ¬ s.at_ + 1 = s.writes.length) : backM m at_ = (wroteM m at_ s w, 0) := by unfold backM; rw [h]; simp only [hl, if_false]
/-- is it there to be written -/
theorem left_cases (m : TMach) (at_ st : Int) : leftM m at_ st = none ∨ ∃ (k n : Nat) (s : TSess) (w : TWrite), at_ = (k : Nat) ∧ m.sess[k]? = some s ∧ MayP m ∧ SP m.words s ∧ s.step = st ∧ s.at_ = (n : Int) ∧ n < s.writes.length ∧ s.writes[n]? = some w ∧ leftM m at_ st = some (s, w) := by
  cases lf_cases m at_ st with
  | no h => exact .inl (left_none (curS_no h))
  | off k s e hs hM hS hst => subst e; exact .inl (left_none (curS_off hs hM hst))
  | fin k s e hs hM hS hst hp => subst e; exact .inl (left_fin hs hM hst hp)
  | on k n s w e hs hM hS hst hp hn hi => subst e; exact .inr ⟨k, n, s, w, rfl, hs, hM, hS, hst, hp, hn, hi, left_on hs hM hst hp hi⟩
theorem r_back (i : Nat) (pf : Bool) (m : TMach) (hm : SmM m) (at_ : Int) : pureOf (Lv ctx (i + 10)) 61 [eM pf m, iV at_] = some (.tup [oM (backM m at_).1, iV (backM m at_).2]) := by
  have ql := r_left (i + 0) pf m hm at_ 4
  have qc := r_copy (i + 7) pf m hm
  rcases left_cases m at_ 4 with h | ⟨k, n, s, w, rfl, hs, hM, hS, hst, hp, hn, hi, hl⟩
  · rw [back_none h, zero_o]
    rw [h] at ql
    simp only [Nat.add_assoc, Nat.reduceAdd, Option.isSome_none] at ql
    refine sp_of rfl 0 (by rfl) ?_
    delta c61
    cases pf <;> simp +contextual -dsimp -implicitDefEqProofs (maxSteps := 5000000) only [ql, go_sem, simprocAttr]
  · obtain ⟨j, g, hj, hg, hgm, hlev, hv⟩ := word_at hM hS hi
    have qw := r_write (i + 5) g.val g.ver g.lock w.val s.stamp
    rw [show (⟨g.val, g.ver, g.lock⟩ : TWord) = g from rfl, write_ok hgm hv hS.stamp] at qw
    have qe := r_end (i + 0) false (wroteM m k s w) (sm_wrote hm hs w) k 1 0
    rw [hl] at ql
    simp only [Nat.add_assoc, Nat.reduceAdd, Option.isSome_some, eW] at ql qc qe qw
    have hk := get_lt hs
    have e1 : (0 ≤ (k : Int)) = True := by simp
    have e2 : ((k : Int) < (m.sess.length : Int)) = True := by simpa using hk
    have e3 : ∀ x, ((m.sess.map oS).set k x)[k]? = some x := fun x => List.getElem?_set_self (by simpa using hk)
    have e4 : ∀ x y, ((m.sess.map oS).set k x).set k y = (m.sess.map oS).set k y := fun x y => List.set_set ..
    have p1 : (0 ≤ (n : Int)) = True := by simp
    have p2 : ((n : Int) < (s.writes.length : Int)) = True := by simpa using hn
    have jn : w.index.toNat = j := by rw [hj]; rfl
    have j1 : (0 ≤ (j : Int)) = True := by simp
    have hn1 : IntKind.wrap .i64 ((n : Int) + 1) = (n : Int) + 1 := by
      have := (hm.s s (List.mem_of_getElem? hs)).bw
      exact wrap_small (by omega) (by omega)
    rcases hlev with h0 | h0 | h0 | h0
    all_goals
      rw [h0] at hg
      simp only [A4.get] at hg
      simp only [show ((1 : Int) = 0) = False by decide, show ((2 : Int) = 0) = False by decide, show ((2 : Int) = 1) = False by decide, show ((3 : Int) = 0) = False by decide, show ((3 : Int) = 1) = False by decide, show ((3 : Int) = 2) = False by decide, if_true, if_false] at hg
      have hjl := get_lt hg
      have j2 := eq_true (Int.ofNat_lt.2 hjl)
      by_cases hlast : s.at_ + 1 = s.writes.length
      · rw [back_last hl hlast]
        have l1 : decide ((n : Int) + 1 = (s.writes.length : Int)) = true := by rw [hp] at hlast; simpa using hlast
        generalize endM (wroteM m k s w) k 1 0 = r at qe ⊢
        simp only [wroteM, setS, setW, h0, setA_0, setA_1, setA_2, setA_3, jn, hp, eM, cM, eWs, eSs, eEs, List.map_set, eW, eS, Int.toNat_natCast] at qe
        refine sp_of rfl 0 (by rfl) ?_
        delta c61
        cases pf <;> simp +contextual -dsimp -implicitDefEqProofs (maxSteps := 5000000) only [ql, qc, qw, qe, hs, e1, e2, e3, e4, p1, p2, hp, hi, h0, hj, hg, j1, j2, hn1, l1, List.length_set, bzs_set, go_sem, simprocAttr]
      · rw [back_more hl hlast]
        have l1 : decide ((n : Int) + 1 = (s.writes.length : Int)) = false := by rw [hp] at hlast; simpa using hlast
        simp only [wroteM, setS, setW, h0, setA_0, setA_1, setA_2, setA_3, jn, hp, Int.toNat_natCast, oM, cO, oWs, oSs, oEs, List.map_set, eW, oS]
        refine sp_of rfl 0 (by rfl) ?_
        delta c61
        cases pf <;> simp +contextual -dsimp -implicitDefEqProofs (maxSteps := 5000000) only [ql, qc, qw, hs, e1, e2, e3, e4, p1, p2, hp, hi, h0, hj, hg, j1, j2, hn1, l1, List.length_set, bzs_set, go_sem, simprocAttr]
end Ve
