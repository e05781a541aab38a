/- The program's drifting. -/
import Derived.Test.YtjllmdplakoanaaGreatS25
import Derived.Test.YtjllmdplakoanaaGreatS11
set_option linter.all false
set_option linter.unusedSectionVars false
namespace Ve
open Go Ve.Ab
set_option maxHeartbeats 16000000
set_option maxRecDepth 10000
theorem s_has1 (i : Nat) (p nn : Bool) (a v : Int) : pureOf (Lv ctx (i + 2)) 72 [.isl p nn 1 [iV a], iV v] = some (bV (decide (v = a))) := by
  have h : pureOf (Lv ctx (i + 1)) 110 [.isl p nn 1 [iV a], iV v] = some (iV (if v = a then 0 else -1)) := by
    by_cases h1 : v = a
    · have d1 : decide (v = a) = true := by simpa using h1
      rw [if_pos h1]
      refine sp_of rfl 3 (by rfl) ?_
      delta c110
      simp +contextual -dsimp -implicitDefEqProofs (maxSteps := 5000000) only [d1, gLs, ↓un_c (c110_1.eq_1), go_sem, simprocAttr]
    · have d1 : decide (v = a) = false := by simpa using h1
      rw [if_neg h1]
      refine sp_of rfl 3 (by rfl) ?_
      delta c110
      simp +contextual -dsimp -implicitDefEqProofs (maxSteps := 5000000) only [d1, gLs, ↓un_c (c110_1.eq_1), go_sem, simprocAttr]
  refine sp_of rfl 0 (by rfl) ?_
  delta c72
  by_cases h1 : v = a
  · rw [if_pos h1] at h; have d1 : decide (v = a) = true := by simpa using h1
    simp +contextual -dsimp -implicitDefEqProofs (maxSteps := 5000000) only [h, d1, go_sem, simprocAttr]
  · rw [if_neg h1] at h; have d1 : decide (v = a) = false := by simpa using h1
    simp +contextual -dsimp -implicitDefEqProofs (maxSteps := 5000000) only [h, d1, go_sem, simprocAttr]
/-- at an instruction of this code? -/
def atC (m : TMach) (at_ c : Int) : Bool := match curI m at_ with
  | some (_, x) => decide (x.code = c)
  | none => false
theorem s_at1 (i : Nat) (p pf q nn : Bool) (m : TMach) (hm : SmM m) (at_ c : Int) : pureOf (Lv ctx (i + 21)) 37 [.ip p (cM pf m) 0, iV at_, .isl q nn 1 [iV c]] = some (bV (atC m at_ c)) := by
  have h1 := s_mthere (i + 0) p pf m at_ hm
  have hc := fun v => s_has1 (i + 18) q nn c v
  simp only [Nat.add_assoc, Nat.reduceAdd] at h1 hc
  cases at_cases m at_ with
  | no h =>
    have e : atC m at_ c = false := by unfold atC; rw [cur_no h]
    rw [e]
    refine sp_of rfl 0 (by rfl) ?_
    delta c37
    simp +contextual -dsimp -implicitDefEqProofs (maxSteps := 5000000) only [h1, h, go_sem, simprocAttr]
  | off k s e0 hs hM hS hst =>
    subst e0
    have e : atC m k c = false := by unfold atC; rw [cur_off hs hM hst]
    rw [e]
    have hh := here_k hs hM
    have hk := get_lt hs
    have e1 : (0 ≤ (k : Int)) = True := by simp
    have e2 : ((k : Int) < (m.sess.length : Int)) = True := by simpa using hk
    have z0 : decide (s.step = 0) = false := by simpa using hst
    refine sp_of rfl 0 (by rfl) ?_
    delta c37
    simp +contextual -dsimp -implicitDefEqProofs (maxSteps := 5000000) only [h1, hh, hs, e1, e2, z0, go_sem, simprocAttr]
  | fin k s e0 hs hM hS hst hp =>
    subst e0
    have e : atC m k c = false := by unfold atC; rw [cur_fin hs hM hst hp]
    rw [e]
    have hh := here_k hs hM
    have hk := get_lt hs
    have e1 : (0 ≤ (k : Int)) = True := by simp
    have e2 : ((k : Int) < (m.sess.length : Int)) = True := by simpa using hk
    have z0 : decide (s.step = 0) = true := by simpa using hst
    have z1 : decide ((s.prog.length : Int) < (s.prog.length : Int)) = false := by simp
    refine sp_of rfl 0 (by rfl) ?_
    delta c37
    simp +contextual -dsimp -implicitDefEqProofs (maxSteps := 5000000) only [h1, hh, hs, e1, e2, z0, hp, z1, go_sem, simprocAttr]
  | on k n s x e0 hs hM hS hst hp hn hi =>
    subst e0
    have e : atC m k c = decide (x.code = c) := by unfold atC; rw [cur_on hs hM hst hp hi]
    rw [e]
    have hh := here_k hs hM
    have hk := get_lt hs
    have e1 : (0 ≤ (k : Int)) = True := by simp
    have e2 : ((k : Int) < (m.sess.length : Int)) = True := by simpa using hk
    have z0 : decide (s.step = 0) = true := by simpa using hst
    have p1 : (0 ≤ (n : Int)) = True := by simp
    have p2 : ((n : Int) < (s.prog.length : Int)) = True := by simpa using hn
    have z1 : decide ((n : Int) < (s.prog.length : Int)) = true := by simpa using hn
    refine sp_of rfl 0 (by rfl) ?_
    delta c37
    simp +contextual -dsimp -implicitDefEqProofs (maxSteps := 5000000) only [h1, hh, hs, e1, e2, z0, hp, z1, p1, p2, hi, hc, go_sem, simprocAttr]
theorem at_no {m : TMach} {at_ c : Int} (h : curI m at_ = none ∨ ∃ s x, curI m at_ = some (s, x) ∧ ¬ x.code = c) : atC m at_ c = false := by
  unfold atC
  rcases h with h | ⟨s, x, h, hc⟩
  · rw [h]
  · rw [h]; simpa using hc
theorem at_on {m : TMach} {at_ c : Int} {s : TSess} {x : TInst} (h : curI m at_ = some (s, x)) (hc : x.code = c) : atC m at_ c = true := by
  unfold atC; rw [h]; simpa using hc
theorem s_needs (i : Nat) (pf : Bool) (m : TMach) (hm : SmM m) (at_ : Int) : pureOf (Lv ctx (i + 22)) 13 [eM pf m, iV at_] = some (.tup [bV (needsM m at_).1, iV (needsM m at_).2]) := by
  have q := s_at1 (i + 0) pf pf false false m hm at_ 2
  rcases read_cases m at_ with h | ⟨k, n, s, x, rfl, hs, hM, hS, hst, hp, hn, hi, hc, hcur⟩
  · obtain ⟨g1, _, _⟩ := no_read h
    rw [g1]
    rw [at_no h] at q
    simp only [Nat.add_assoc, Nat.reduceAdd] at q
    refine sp_of rfl 0 (by rfl) ?_
    delta c13
    cases pf <;> simp +contextual -dsimp -implicitDefEqProofs (maxSteps := 5000000) only [q, go_sem, simprocAttr]
  · rw [needs_on hcur hc]
    rw [at_on hcur hc] at q
    simp only [Nat.add_assoc, Nat.reduceAdd] at q
    have hk := get_lt hs
    have e1 : (0 ≤ (k : Int)) = True := by simp
    have e2 : ((k : Int) < (m.sess.length : Int)) = True := by simpa using hk
    have p1 : (0 ≤ (n : Int)) = True := by simp
    have p2 : ((n : Int) < (s.prog.length : Int)) = True := by simpa using hn
    refine sp_of rfl 0 (by rfl) ?_
    delta c13
    cases pf <;> simp +contextual -dsimp -implicitDefEqProofs (maxSteps := 5000000) only [q, hs, e1, e2, hp, p1, p2, hi, go_sem, simprocAttr]
theorem s_join (i : Nat) (a b : Int) (ha : inR a 3 = true) (hb : inR b 3 = true) : pureOf (Lv ctx (i + 2)) 42 [iV a, iV b] = some (.tup [iV (orI a b), iV 0]) := by
  refine sp_of rfl 0 (by rfl) ?_
  delta c42
  simp +contextual -dsimp -implicitDefEqProofs (maxSteps := 5000000) only [ha, hb, go_sem, simprocAttr]
theorem s_noteE (i : Nat) (m : TMach) (a1 a2 a3 a4 l : List V) (k : Nat) (id lb : Int) (rest : List V) (hk : l[k]? = some (.agg (iV id :: iV lb :: rest))) (kd vl : Int) (htr : m.trace.length < 512) :
    Lv ctx (i + 1) 45 [.ptr 7 0 0, iV k, iV kd, iV vl] (hN m a1 a2 a3 a4 l) 8 = some (.tup [], hT m a1 a2 a3 a4 l ⟨id, lb, kd, vl⟩, 10) := by
  have h1 : (0 ≤ (k : Int)) = True := by simp
  have h2 : ((k : Int) < (l.length : Int)) = True := by simpa using get_lt hk
  have h6 : decide ((m.trace.length : Int) < 512) = true := by simp; omega
  have h7 : (((m.trace.length + 1 : Nat) : Int) * 32 ≤ 140737488355328) = True := by simp; omega
  refine inl_of rfl 0 ?_
  delta c45
  simp +contextual -dsimp -implicitDefEqProofs (maxSteps := 5000000) only [h1, h2, hk, h6, h7, List.replicate, go_sem, simprocAttr]
  rfl
theorem s_drift (i : Nat) (pf : Bool) (m : TMach) (hm : SmM m) (at_ : Int) : pureOf (Lv ctx (i + 23)) 15 [eM pf m, iV at_] = some (.tup [oM (driftM m at_).1, iV (driftM m at_).2]) := by
  have qn := s_needs (i + 0) pf m hm at_
  have qc := s_mcopy (i + 19) pf m hm
  have qe := s_end (i + 1) pf m hm at_ 4 0
  rcases read_cases m at_ with h | ⟨k, n, s, x, rfl, hs, hM, hS, hst, hp, hn, hi, hc, hcur⟩
  · obtain ⟨g1, g2, _⟩ := no_read h
    rw [g2, zero_o]
    rw [g1] at qn
    simp only [Nat.add_assoc, Nat.reduceAdd] at qn
    refine sp_of rfl 0 (by rfl) ?_
    delta c15
    cases pf <;> simp +contextual -dsimp -implicitDefEqProofs (maxSteps := 5000000) only [qn, go_sem, simprocAttr]
  · rw [needs_on hcur hc] at qn
    have hlx := (inst_lab (sp_inst hS hi).1 (.inl hc)).1
    have qj := s_join (i + 20) s.label x.b hS.label hlx
    simp only [Nat.add_assoc, Nat.reduceAdd] at qn qc qe qj
    have hk := get_lt hs
    have e1 : (0 ≤ (k : Int)) = True := by simp
    have e2 : ((k : Int) < (m.sess.length : Int)) = True := by simpa using hk
    have e3 : (m.sess.map oS)[k]? = some (oS s) := by simp [hs]
    have p1 : (0 ≤ (n : Int)) = True := by simp
    have p2 : ((n : Int) < (s.prog.length : Int)) = True := by simpa using hn
    cases hu : under x.b s.label
    · rw [hu] at qn
      cases hcl : under (orI s.label x.b) s.clear
      · have e : driftM m k = endM m k 4 0 := by unfold driftM; rw [hcur]; simp only [hc, hu, hcl]; rfl
        rw [e]
        refine sp_of rfl 0 (by rfl) ?_
        delta c15
        cases pf <;> simp +contextual -dsimp -implicitDefEqProofs (maxSteps := 5000000) only [qn, qe, qj, hcl, hs, e1, e2, p1, p2, hp, hi, go_sem, simprocAttr]
      · have e : driftM m k = (setS (tellM m ⟨s.id, s.label, 2, orI s.label x.b⟩) k { s with label := orI s.label x.b }, 0) := by unfold driftM; rw [hcur]; simp only [hc, hu, hcl]; rfl
        rw [e]
        by_cases htr : m.trace.length < 512
        · have hn := s_noteE (i + (22 - 1)) m (m.words.a0.map eW) (m.words.a1.map eW) (m.words.a2.map eW) (m.words.a3.map eW) (m.sess.map oS) k s.id s.label _ e3 2 (orI s.label x.b) htr
          simp only [Nat.add_assoc, Nat.reduceAdd, Nat.reduceSub] at hn
          refine sp_of rfl 0 (by rfl) ?_
          delta c15
          cases pf
          all_goals
            simp +contextual -dsimp -implicitDefEqProofs (maxSteps := 5000000) only [qn, qc, qj, hcl, hs, e1, e2, p1, p2, hp, hi, go_sem, simprocAttr]
            refine gi_step hn ?_
            simp +contextual -dsimp -implicitDefEqProofs (maxSteps := 5000000) only [e1, e2, e3, hs, go_sem, simprocAttr]
            simp only [oM, cO, oWs, oSs, oEs, tellM, setS, htr, if_true, List.map_set, List.map_append, ← hp]
            rfl
        · have hn := s_noteF (i + (22 - 1)) m (m.words.a0.map eW) (m.words.a1.map eW) (m.words.a2.map eW) (m.words.a3.map eW) (m.sess.map oS) k 2 (orI s.label x.b) htr
          simp only [Nat.add_assoc, Nat.reduceAdd, Nat.reduceSub] at hn
          refine sp_of rfl 0 (by rfl) ?_
          delta c15
          cases pf
          all_goals
            simp +contextual -dsimp -implicitDefEqProofs (maxSteps := 5000000) only [qn, qc, qj, hcl, hs, e1, e2, p1, p2, hp, hi, go_sem, simprocAttr]
            refine gi_step hn ?_
            simp +contextual -dsimp -implicitDefEqProofs (maxSteps := 5000000) only [e1, e2, e3, hs, go_sem, simprocAttr]
            simp only [oM, cO, oWs, oSs, oEs, tellM, setS, htr, if_false, List.map_set, ← hp]
            rfl
    · have e : driftM m k = (zeroM, 1400) := by unfold driftM; rw [hcur]; simp only [hc, hu]; rfl
      rw [e, zero_o]
      rw [hu] at qn
      refine sp_of rfl 0 (by rfl) ?_
      delta c15
      cases pf <;> simp +contextual -dsimp -implicitDefEqProofs (maxSteps := 5000000) only [qn, go_sem, simprocAttr]
end Ve
