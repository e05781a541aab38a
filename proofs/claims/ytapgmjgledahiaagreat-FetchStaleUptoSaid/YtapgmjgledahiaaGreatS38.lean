/- The reference's reads: no reads at all. -/
import Derived.Test.YtapgmjgledahiaaGreatS22
set_option linter.all false
set_option linter.unusedSectionVars false
namespace Ve
open Go Ve.Ab
set_option maxHeartbeats 16000000
set_option maxRecDepth 10000
abbrev nilV : V := .lit (.slice none 0 0)
theorem r_readsN (i : Nat) : pureOf (Lv ctx (i + 4)) 54 [nilV] = some (bV true) := by
  refine sp_of rfl 1 (by rfl) ?_
  delta c54
  simp +contextual -dsimp -implicitDefEqProofs (maxSteps := 5000000) only [gLs, ↓un_c (c54_2.eq_1), go_sem, simprocAttr]
theorem r_rthereN (i : Nat) (a b c d na nb nc nd : Bool) (w0 w1 w2 w3 : List TWord) : pureOf (Lv ctx (i + 4)) 55 [.agg [.isl a na 3 (w0.map eW), .isl b nb 3 (w1.map eW), .isl c nc 3 (w2.map eW), .isl d nd 3 (w3.map eW)], nilV] = some (bV true) := by
  refine sp_of rfl 1 (by rfl) ?_
  delta c55
  simp +contextual -dsimp -implicitDefEqProofs (maxSteps := 5000000) only [gLs, ↓un_c (c55_1.eq_1), go_sem, simprocAttr]
theorem r_goodN (i : Nat) (a b c d na nb nc nd : Bool) (w0 w1 w2 w3 : List TWord) (h0 : w0.length ≤ BB) (h1 : w1.length ≤ BB) (h2 : w2.length ≤ BB) (h3 : w3.length ≤ BB) (id : Int) (hid : inR id 254 = true) (hM : arenaMay ⟨w0, w1, w2, w3⟩ = true) :
    pureOf (Lv ctx (i + 5)) 32 [.agg [.isl a na 3 (w0.map eW), .isl b nb 3 (w1.map eW), .isl c nc 3 (w2.map eW), .isl d nd 3 (w3.map eW)], nilV, iV id] = some (.tup [bV true, iV 0]) := by
  have q1 := r_arena (i + 0) a b c d na nb nc nd w0 w1 w2 w3 h0 h1 h2 h3
  have q2 := r_readsN (i + 0)
  have q3 := r_rthereN (i + 0) a b c d na nb nc nd w0 w1 w2 w3
  simp only [hM, Nat.add_assoc, Nat.reduceAdd] at q1 q2 q3
  refine sp_of rfl 1 (by rfl) ?_
  delta c32
  simp +contextual -dsimp -implicitDefEqProofs (maxSteps := 5000000) only [q1, q2, q3, hid, gLs, ↓un_c (c32_1.eq_1), go_sem, simprocAttr]
end Ve
