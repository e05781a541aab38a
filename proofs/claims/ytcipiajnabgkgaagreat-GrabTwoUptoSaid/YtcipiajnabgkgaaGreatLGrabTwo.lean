/- The statement GrabTwo. -/
import Derived.Test.YtcipiajnabgkgaaGreatS34
import Derived.Test.YtcipiajnabgkgaaGreatS36
import Derived.Test.YtcipiajnabgkgaaGreatS39
import Derived.Test.YtcipiajnabgkgaaGreatS19
import Derived.Test.YtcipiajnabgkgaaGreatPL11
import Derived.Test.YtcipiajnabgkgaaGreatPLb
set_option linter.all false
set_option linter.unusedSectionVars false
namespace Ve
open Go Ve.Ab
set_option maxHeartbeats 16000000
set_option maxRecDepth 20000
theorem u_GrabTwo (i : Nat) (first : Bool) (x : Int) (haw : pureOf (Lv ctx (i + 23)) 31 [] = some (bV true)) (hbe : pureOf (Lv ctx (i + 23)) 33 [] = some (oM MB)) (hst : pureOf (Lv ctx (i + 23)) 32 [iV 0, iV 0] = some (oM MB)) : pureOf (Lv ctx (i + 24)) 12 [bV first, iV x] = some (bV true) := by
  have hv := inR_le.1 (mask_in x 255 (by omega))
  obtain ⟨v, ev, hv⟩ : ∃ v : Int, andI x 255 = v ∧ 0 ≤ v ∧ v ≤ 255 := ⟨_, rfl, hv.1, hv.2⟩
  obtain ⟨n, hn⟩ : ∃ n : _root_.Fin 256, v = ((n.val : Nat) : Int) := ⟨⟨v.toNat, by omega⟩, by simp only []; omega⟩
  have dd : ∀ n : Int, decide (n = n) = true := fun n => by simp
  have w4 : IntKind.wrap .i64 4 = 4 := by decide
  have w6 : IntKind.wrap .i64 6 = 6 := by decide
  have fn := fun p => r_newM (i + 15) p (GSc v) (gsc v)
  have gn' := gn n
  rw [← hn] at gn'
  rw [gn'] at fn
  have f0_1 := fun pf => r_step (i + 11) pf (GM0 v) (gsm0 v) 0
  have kf0_1 := g0_1 n
  rw [← hn] at kf0_1
  rw [kf0_1] at f0_1
  have f1_2 := fun pf => r_step (i + 11) pf (GM1 v) (gsm1 v) 0
  have kf1_2 := g1_2 n
  rw [← hn] at kf1_2
  rw [kf1_2] at f1_2
  have f2_3 := fun pf => r_step (i + 11) pf (GM2 v) (gsm2 v) 0
  have kf2_3 := g2_3 n
  rw [← hn] at kf2_3
  rw [kf2_3] at f2_3
  have f3_4 := fun pf => r_step (i + 11) pf (GM3 v) (gsm3 v) 1
  have kf3_4 := g3_4 n
  rw [← hn] at kf3_4
  rw [kf3_4] at f3_4
  have f4_5 := fun pf => r_step (i + 11) pf (GM4 v) (gsm4 v) 1
  have kf4_5 := g4_5 n
  rw [← hn] at kf4_5
  rw [kf4_5] at f4_5
  have f5_6 := fun pf => s_grab (i + 1) pf (GM5 v) (gsm5 v) 0
  have kf5_6 := g5_6 n
  rw [← hn] at kf5_6
  rw [kf5_6] at f5_6
  have f6_7 := fun pf => s_grab (i + 1) pf (GM6 v) (gsm6 v) 1
  have kf6_7 := g6_7 n
  rw [← hn] at kf6_7
  rw [kf6_7] at f6_7
  have f5_8 := fun pf => s_grab (i + 1) pf (GM5 v) (gsm5 v) 1
  have kf5_8 := g5_8 n
  rw [← hn] at kf5_8
  rw [kf5_8] at f5_8
  have f8_9 := fun pf => s_grab (i + 1) pf (GM8 v) (gsm8 v) 0
  have kf8_9 := g8_9 n
  rw [← hn] at kf8_9
  rw [kf8_9] at f8_9
  simp only [Nat.add_assoc, Nat.reduceAdd, GSc, cSc, eSc, eNs, eSts, eSls, eSt, GM0, GM1, GM2, GM3, GM4, GM5, GM6, GM7, GM8, GM9, oM, cO, oWs, oSs, oEs, oIs, oRs, oWrs, oS, eM, cM, eWs, eSs, eEs, eIs, eRs, eWrs, List.map_cons, List.map_nil, eS, eI, eR, eWr, eW, eE] at fn f0_1 f1_2 f2_3 f3_4 f4_5 f5_6 f6_7 f5_8 f8_9
  simp only [MB, oM, cO, oWs, oSs, oEs, oIs, oRs, oWrs, oS, List.map_cons, List.map_nil, eI, eR, eWr, eW, eE] at hbe hst
  cases first
  all_goals
    refine sp_of rfl 10 (by rfl) ?_
    delta c12
    simp +contextual -dsimp -implicitDefEqProofs (maxSteps := 5000000) only [haw, hbe, hst, ev, dd, List.replicate, gLs, ↓un_c (c12_1.eq_1), ↓un_c (c12_2.eq_1), fn, f0_1, f1_2, f2_3, f3_4, f4_5, f5_6, f6_7, f5_8, f8_9, go_sem, simprocAttr]
    rw [gE_draw (hd := by rfl)]
    simp +contextual -dsimp -implicitDefEqProofs (maxSteps := 5000000) only [hbe, hst, dd, w4, w6, go_sem, simprocAttr]
end Ve
