/- The program's reads: Changed. -/
import Derived.Test.YtapgmjgledahiaaGreatS41
set_option linter.all false
set_option linter.unusedSectionVars false
namespace Ve
open Go Ve.Ab
set_option maxHeartbeats 16000000
set_option maxRecDepth 10000
theorem s_changed (i : Nat) (pf p2 : Bool) (ws : A4 (List TWord)) (xs : List TRead) (hx : xs.length ≤ BB) : pureOf (Lv ctx (i + 9)) 41 [.agg (cW pf ws), .isl p2 false 3 (xs.map eR)] = some (.tup [bV (changedM ws xs).1, iV (changedM ws xs).2]) := by
  have qw := fun p => s_words i p pf p2 false ws xs hx
  cases hd : (arenaMay ws && readsMay xs && readsThere ws xs)
  · have e : changedM ws xs = (false, 900) := by unfold changedM; rw [hd]; rfl
    rw [e]
    have e2 : wordsM ws xs = ([], false) := by unfold wordsM; rw [hd]; rfl
    rw [e2] at qw
    refine sp_of rfl 0 (by rfl) ?_
    delta c41
    cases pf <;> simp +contextual -dsimp -implicitDefEqProofs (maxSteps := 5000000) only [qw, List.map_nil, go_sem, simprocAttr]
  · have hcc := hd
    simp only [Bool.and_eq_true] at hcc
    have hl : xs.length ≤ 16 := by have := hcc.1.2; simp only [readsMay, Bool.and_eq_true, decide_eq_true_eq] at this; exact this.2
    have e : changedM ws xs = (xs.any (chgR ws), 0) := by unfold changedM; rw [hd]; rfl
    have e2 : wordsM ws xs = (xs.map (fW ws), true) := by unfold wordsM; rw [hd]; rfl
    have ea : xs.any (chgR ws) = !(xs.all fun r => !chgR ws r) := by simp [List.any_eq_not_all_not]
    rw [e, ea]
    rw [e2] at qw
    refine sp_of rfl (xs.length + 1) (by rfl) ?_
    delta c41
    have key : ∀ (q : Out → St → Option Ans) (Q : V → Hp → Nat → Prop) (u : Dum (fun s q => evC ctx (Lv ctx (i + 8)) (pureOf (Lv ctx (i + 8))) (xs.length + 1) c41_1 s (restK [1, 17, 18, 19] q))) (w : Dum q),
        (xs.all (fun r => !chgR ws r) = true → Fin (q (.exit 0) ⟨ofLive [] [], pO emptyHp 0 (some ⟨3, (xs.map (fW ws)).map eW, false⟩), 1⟩) Q) → (∀ h n, xs.all (fun r => !chgR ws r) = false → Fin (q .ret ⟨ofLive [4, 5] [bV true, iV 0], h, n⟩) Q) →
        GL 1 [1, 17, 18, 19] (fun s q => evC ctx (Lv ctx (i + 8)) (pureOf (Lv ctx (i + 8))) (xs.length + 1) c41_1 s (restK [1, 17, 18, 19] q)) q (xs.length + 1) ⟨ofLive [1, 17, 18, 19] [.isl p2 false 3 (xs.map eR), .sl 0, iV xs.length, iV 0], pO emptyHp 0 (some ⟨3, (xs.map (fW ws)).map eW, false⟩), 1⟩ Q u w := by
      intro q Q u w hend hbad
      refine gl_all (S := fun j => ⟨ofLive [1, 17, 18, 19] [.isl p2 false 3 (xs.map eR), .sl 0, iV xs.length, iV j], pO emptyHp 0 (some ⟨3, (xs.map (fW ws)).map eW, false⟩), 1⟩) xs.length (fun j => !chgR ws (xs.getD j ⟨0, 0, 0⟩)) rfl (by omega) ?_ ?_ ?_
      · intro j kk hj hgd hl
        have hxj : xs[j]? = some (xs.getD j ⟨0, 0, 0⟩) := by simp [List.getD_eq_getElem?_getD, hj]
        generalize xs.getD j ⟨0, 0, 0⟩ = x at hxj hgd
        obtain ⟨g, hg⟩ : ∃ g, fW ws x = g := ⟨_, rfl⟩
        have f1 : decide (g.ver = x.ver) = true := by
          have h0 : (getW ws x.level x.index).ver = x.ver := by simpa [chgR] using hgd
          rw [← hg]; exact decide_eq_true h0
        have l1 : ((j : Int) < (xs.length : Int)) = True := by simpa using hj
        have l2 : (0 ≤ (j : Int)) = True := by simp
        have l3 := wrN j (by simp only [BB]; omega)
        simp +contextual -dsimp -implicitDefEqProofs (maxSteps := 5000000) only [l1, l2, l3, hxj, hg, f1, ↓un_c (c41_1.eq_1), go_sem, simprocAttr]
        exact gl_norm hl (by rfl)
      · intro j kk hj hgd _
        have hxj : xs[j]? = some (xs.getD j ⟨0, 0, 0⟩) := by simp [List.getD_eq_getElem?_getD, hj]
        generalize xs.getD j ⟨0, 0, 0⟩ = x at hxj hgd
        have hf : xs.all (fun r => !chgR ws r) = false := all_false _ hxj hgd
        obtain ⟨g, hg⟩ : ∃ g, fW ws x = g := ⟨_, rfl⟩
        have f1 : decide (g.ver = x.ver) = false := by
          have h0 : ¬ (getW ws x.level x.index).ver = x.ver := by simpa [chgR] using hgd
          rw [← hg]; exact decide_eq_false h0
        have l1 : ((j : Int) < (xs.length : Int)) = True := by simpa using hj
        have l2 : (0 ≤ (j : Int)) = True := by simp
        simp +contextual -dsimp -implicitDefEqProofs (maxSteps := 5000000) only [l1, l2, hxj, hg, f1, ↓un_c (c41_1.eq_1), go_sem, simprocAttr]
        exact hbad _ _ hf
      · intro kk hall
        have l0 : decide ((xs.length : Int) < (xs.length : Int)) = false := by simp
        simp +contextual -dsimp -implicitDefEqProofs (maxSteps := 5000000) only [l0, ↓un_c (c41_1.eq_1), go_sem, simprocAttr]
        exact hend (all_range _ ⟨0, 0, 0⟩ _ hall)
    cases pf
    all_goals
      simp +contextual -dsimp -implicitDefEqProofs (maxSteps := 5000000) only [qw, List.length_map, go_sem, simprocAttr]
      refine key _ _ _ _ (fun h => ?_) (fun _ _ h => ?_)
      · rw [h]; simp +contextual -dsimp -implicitDefEqProofs (maxSteps := 5000000) only [go_sem, simprocAttr]
      · rw [h]; simp +contextual -dsimp -implicitDefEqProofs (maxSteps := 5000000) only [go_sem, simprocAttr]
end Ve
