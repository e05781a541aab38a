/- The statement BackHidden. -/
import Derived.Test.YtcipiajnabgkgaaGreatS34
import Derived.Test.YtcipiajnabgkgaaGreatS28
import Derived.Test.YtcipiajnabgkgaaGreatPL8
import Derived.Test.YtcipiajnabgkgaaGreatS19
set_option linter.all false
set_option linter.unusedSectionVars false
namespace Ve
open Go Ve.Ab
set_option maxHeartbeats 16000000
set_option maxRecDepth 20000
def MH0 : TMach := ⟨⟨[⟨5, 0, 0⟩, ⟨6, 0, 0⟩], [⟨7, 0, 0⟩], [], [⟨9, 0, 0⟩]⟩, ⟨0, 0, 0, 0⟩, 9, [⟨3, 0, 3, [⟨2, 0, 0, 0⟩, ⟨1, 0, 0, 0⟩, ⟨3, 0, 0, 0⟩], 0, 0, ⟨0, 0, 0, 0⟩, [], [], 0, 0, 0, 0, 0⟩, ⟨5, 1, 1, [⟨2, 0, 0, 1⟩, ⟨3, 0, 1, 0⟩], 0, 0, ⟨0, 0, 0, 0⟩, [], [], 0, 0, 0, 0, 0⟩], []⟩
theorem u_backHidden (i : Nat) (x : Int) (M0' : TMach) (haw : pureOf (Lv ctx (i + 23)) 13 [] = some (bV true)) (hbe : pureOf (Lv ctx (i + 23)) 14 [] = some (oM MH0)) (hst : pureOf (Lv ctx (i + 23)) 18 [iV 0, iV 0] = some (oM M0')) (hl0 : M0'.sess.length = 2) : pureOf (Lv ctx (i + 24)) 3 [iV x] = some (bV true) := by
  have hv := inR_le.1 (mask_in x 255 (by omega))
  obtain ⟨v, ev, hv⟩ : ∃ v : Int, andI x 255 = v ∧ 0 ≤ v ∧ v ≤ 255 := ⟨_, rfl, hv.1, hv.2⟩
  obtain ⟨n, hn⟩ : ∃ n : _root_.Fin 256, v = ((n.val : Nat) : Int) := ⟨⟨v.toNat, by omega⟩, by simp only []; omega⟩
  have dd : ∀ n : Int, decide (n = n) = true := fun n => by simp
  have k3 : ((3 : Nat) : Int) = 3 := rfl
  have w6 : IntKind.wrap .i64 6 = 6 := by decide
  have w7 : IntKind.wrap .i64 7 = 7 := by decide
  have w8 : IntKind.wrap .i64 8 = 8 := by decide
  have f0 := fun pf => r_step (i + 11) pf (HM0 v) (hsm0 v) 0
  have g0 := hst0 n
  rw [← hn] at g0
  rw [g0] at f0
  have f1 := fun pf => r_step (i + 11) pf (HM1 v) (hsm1 v) 0
  have g1 := hst1 n
  rw [← hn] at g1
  rw [g1] at f1
  have f2 := fun pf => r_step (i + 11) pf (HM2 v) (hsm2 v) 0
  have g2 := hst2 n
  rw [← hn] at g2
  rw [g2] at f2
  have f3 := fun pf => r_step (i + 11) pf (HM3 v) (hsm3 v) 0
  have g3 := hst3 n
  rw [← hn] at g3
  rw [g3] at f3
  have f4 := fun pf => r_step (i + 11) pf (HM4 v) (hsm4 v) 0
  have g4 := hst4 n
  rw [← hn] at g4
  rw [g4] at f4
  have f5 := fun pf => r_step (i + 11) pf (HM5 v) (hsm5 v) 0
  have g5 := hst5 n
  rw [← hn] at g5
  rw [g5] at f5
  have f6 := fun pf => r_step (i + 11) pf (HM6 v) (hsm6 v) 0
  have g6 := hst6 n
  rw [← hn] at g6
  rw [g6] at f6
  have f7 := fun pf => r_step (i + 11) pf (HM7 v) (hsm7 v) 0
  have g7 := hst7 n
  rw [← hn] at g7
  rw [g7] at f7
  have b8 := fun pf => s_back (i + 1) pf (HM8 v) (hsm8 v) 0
  have gb8 := hbk8 n
  rw [← hn] at gb8
  rw [gb8] at b8
  have b9 := fun pf => s_back (i + 1) pf (HM9 v) (hsm9 v) 0
  have gb9 := hbk9 n
  rw [← hn] at gb9
  rw [gb9] at b9
  have t9 := fun pf => r_step (i + 11) pf (HM9 v) (hsm9 v) 1
  have gt9 := hst9 n
  rw [← hn] at gt9
  rw [gt9] at t9
  have t10 := fun pf => r_step (i + 11) pf (HM10 v) (hsm10 v) 1
  have gt10 := hst10 n
  rw [← hn] at gt10
  rw [gt10] at t10
  simp only [Nat.add_assoc, Nat.reduceAdd, HM0, HM1, HM2, HM3, HM4, HM5, HM6, HM7, HM8, HM9, HM10, HM11, HM12, oM, cO, oWs, oSs, oEs, oIs, oRs, oWrs, oS, eM, cM, eWs, eSs, eEs, eIs, eRs, eWrs, List.map_cons, List.map_nil, eS, eI, eR, eWr, eW, eE] at f0 f1 f2 f3 f4 f5 f6 f7 b8 b9 t9 t10
  simp only [MH0, oM, cO, oWs, oSs, oEs, oIs, oRs, oWrs, oS, eM, cM, eWs, eSs, eEs, eIs, eRs, eWrs, List.map_cons, List.map_nil, eS, eI, eR, eWr, eW, eE] at hbe
  have hl1 : ((M0'.sess.length : Nat) : Int) = 2 := by rw [hl0]; rfl
  refine sp_of rfl 10 (by rfl) ?_
  delta c3
  simp +contextual -dsimp -implicitDefEqProofs (maxSteps := 5000000) only [haw, hbe, hst, hl1, ev, dd, k3, w6, w7, w8, List.replicate, gLs, ↓un_c (c3_1.eq_1), f0, f1, f2, f3, f4, f5, f6, f7, b8, b9, t9, t10, go_sem, simprocAttr]
end Ve
