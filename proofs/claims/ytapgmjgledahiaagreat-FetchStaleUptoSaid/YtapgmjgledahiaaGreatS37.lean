/- Same: zero machines, sessions of mixed origin. -/
import Derived.Test.YtapgmjgledahiaaGreatS19
import Derived.Test.YtapgmjgledahiaaGreatVeM
set_option linter.all false
set_option linter.unusedSectionVars false
namespace Ve
open Go Ve.Ab
set_option maxHeartbeats 16000000
set_option maxRecDepth 10000
theorem s_sameSessionG (i : Nat) (p1 p2 p3 q1 q2 q3 : Bool) (a b : TSess) (h1 : a.prog.length ≤ BB) (h2 : a.reads.length ≤ BB) (h3 : a.writes.length ≤ BB) : pureOf (Lv ctx (i + 2)) 48
    [.agg [iV a.id, iV a.label, iV a.clear, eIs p1 a.prog, iV a.step, iV a.pc, iV a.regs.a0, iV a.regs.a1, iV a.regs.a2, iV a.regs.a3, eRs p2 a.reads, eWrs p3 a.writes, iV a.at_, iV a.stamp, iV a.tries, iV a.result, iV a.told],
     .agg [iV b.id, iV b.label, iV b.clear, eIs q1 b.prog, iV b.step, iV b.pc, iV b.regs.a0, iV b.regs.a1, iV b.regs.a2, iV b.regs.a3, eRs q2 b.reads, eWrs q3 b.writes, iV b.at_, iV b.stamp, iV b.tries, iV b.result, iV b.told]] = some (bV (decide (a = b))) := by
  have e1 := s_sameInsts i p1 false q1 false a.prog b.prog h1
  have e2 := s_sameReads i p2 false q2 false a.reads b.reads h2
  have e3 := s_sameWrites i p3 false q3 false a.writes b.writes h3
  refine sp_of rfl 0 (by rfl) ?_
  delta c48
  simp +contextual -dsimp -implicitDefEqProofs (maxSteps := 5000000) only [e1, e2, e3, go_sem, simprocAttr]
  congr 2
  rw [Bool.eq_iff_iff]
  simp only [Bool.and_eq_true, decide_eq_true_eq, sess_eq, and_assoc]
abbrev zA (p : Bool) : V := .agg [.isl p false 3 [], .isl p false 3 [], .isl p false 3 [], .isl p false 3 [], iV 0, iV 0, iV 0, iV 0, iV 0, .isl p false 17 [], .isl p false 4 []]
theorem w_zero (i : Nat) (pa pb : Bool) : pureOf (Lv ctx (i + 3)) 18 [zA pa, zA pb] = some (bV true) := by
  have h := s_sameMachine i pa pb zeroM zeroM sm_zero
  simpa only [zeroM, zA, eM, cM, eWs, eSs, eEs, List.map_nil, decide_true] using h

end Ve
