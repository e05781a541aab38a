/- Copies: the program's. -/
import Derived.Test.YtapgmjgledahiaaGreatS7
set_option linter.all false
set_option linter.unusedSectionVars false
namespace Ve
open Go Ve.Ab
set_option maxHeartbeats 16000000
set_option maxRecDepth 10000
@[go_sem] theorem s_session (i : Nat) (pf : Bool) (s : TSess) (hs : SmS s) : pureOf (Lv ctx (i + 2)) 76 [eS pf s] = some (oS s) := by
  have h1 : ((s.prog.length : Int) * 32 ≤ 140737488355328) = True := by simpa using hs.bp
  have h2 : ((s.reads.length : Int) * 24 ≤ 140737488355328) = True := by simpa using hs.br
  have h3 : ((s.writes.length : Int) * 24 ≤ 140737488355328) = True := by simpa using hs.bw
  simp only [eS]
  refine sp_of rfl 0 (by rfl) ?_
  delta c76
  cases pf <;> simp +contextual -dsimp -implicitDefEqProofs (maxSteps := 5000000) only [h1, h2, h3, go_sem, simprocAttr]

@[go_sem] theorem s_arenaCopy (i : Nat) (p : Bool) (w0 w1 w2 w3 : List TWord) (h0 : (w0.length : Int) * 24 ≤ 140737488355328) (h1 : (w1.length : Int) * 24 ≤ 140737488355328) (h2 : (w2.length : Int) * 24 ≤ 140737488355328) (h3 : (w3.length : Int) * 24 ≤ 140737488355328) : pureOf (Lv ctx (i + 2)) 73 [.agg [eWs p w0, eWs p w1, eWs p w2, eWs p w3]] = some (.agg [oWs w0, oWs w1, oWs w2, oWs w3]) := by
  have e0 : ((w0.length : Int) * 24 ≤ 140737488355328) = True := by simpa using h0
  have e1 : ((w1.length : Int) * 24 ≤ 140737488355328) = True := by simpa using h1
  have e2 : ((w2.length : Int) * 24 ≤ 140737488355328) = True := by simpa using h2
  have e3 : ((w3.length : Int) * 24 ≤ 140737488355328) = True := by simpa using h3
  refine sp_of rfl 5 (by rfl) ?_
  delta c73
  cases p <;> simp +contextual -dsimp -implicitDefEqProofs (maxSteps := 5000000) only [gLs, ↓un_c (c73_1.eq_1), e0, e1, e2, e3, go_sem, simprocAttr]
end Ve
