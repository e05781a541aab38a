/- The statement FetchStale. -/
import Derived.Test.YtapgmjgledahiaaGreatS47
import Derived.Test.YtapgmjgledahiaaGreatS37
import Derived.Test.YtapgmjgledahiaaGreatPL43
set_option linter.all false
set_option linter.unusedSectionVars false
namespace Ve
open Go Ve.Ab
set_option maxHeartbeats 16000000
set_option maxRecDepth 20000
theorem u_FetchStale (i : Nat) (x y : Int) (haw : pureOf (Lv ctx (i + 24)) 31 [] = some (bV true)) (hbe : pureOf (Lv ctx (i + 24)) 33 [] = some (oM MB)) : pureOf (Lv ctx (i + 25)) 12 [iV x, iV y] = some (bV true) := by
  have hv := inR_le.1 (mask_in y 3 (by omega))
  have hk := inR_le.1 (mask_in x 1 (by omega))
  simp only [cast1] at hk
  have hb : ∀ a b : Bool, opBin lay .neq 4 (.lit (.bool a)) (.lit (.bool b)) = some (.lit (.bool (!(a == b)))) := fun a b => rfl
  have dd : ∀ n : Int, decide (n = n) = true := fun n => by simp
  simp only [MB, oM, cO, oWs, oSs, oEs, oIs, oRs, oWrs, oS, List.map_cons, List.map_nil, eI, eR, eWr, eW, eE] at hbe
  have key : ∀ (v lk : Int) (b : Bool) (S : TSess), (fetchM (SZ v lk) 0).2 = 0 ∧ (fetchM (SZ v lk) 0).1.sess = [S, S50] → goodM (SWs lk) [⟨0, 1, v⟩] 3 = (b, 0) →
      ∃ A : TMach, A.sess[0]? = some S ∧ A.sess.length = 2 ∧ (∀ p, pureOf (Lv ctx (i + 24)) 29 [eM p (SZ v lk), iV 0] = some (.tup [oM A, iV 0])) ∧ ∀ a p n, pureOf (Lv ctx (i + 24)) 32 [.agg [eWs a (SWs lk).a0, eWs a (SWs lk).a1, eWs a (SWs lk).a2, eWs a (SWs lk).a3], .isl p n 3 ([⟨0, 1, v⟩].map eR), iV 3] = some (.tup [bV b, iV 0]) := by
    intro v lk b S h hg
    have f := fun p => s_fetch (i + 1) p (SZ v lk) (sz_sm v lk) 0
    have g := fun a p n => r_good (i + 19) a a a a false false false false (SWs lk).a0 (SWs lk).a1 (SWs lk).a2 (SWs lk).a3 (by simp [BB]) (by simp [BB]) (by simp [BB]) (by simp [BB]) p n [⟨0, 1, v⟩] (by simp [BB]) 3
    rw [show (⟨(SWs lk).a0, (SWs lk).a1, (SWs lk).a2, (SWs lk).a3⟩ : A4 (List TWord)) = SWs lk from rfl, hg] at g
    refine ⟨(fetchM (SZ v lk) 0).1, by rw [h.2]; rfl, by rw [h.2]; rfl, fun p => ?_, g⟩
    rw [f p, h.1]
  obtain h1 | h1 : andI x 1 = 0 ∨ andI x 1 = 1 := by omega
  · obtain h2 | h2 | h2 | h2 : andI y 3 = 0 ∨ andI y 3 = 1 ∨ andI y 3 = 2 ∨ andI y 3 = 3 := by simp at hv; omega
    · obtain ⟨A, hA, al, f, g⟩ := key 0 0 false SB (by decide +kernel) (by decide +kernel)
      simp only [SB, SZ, S50, SQ, Nat.add_assoc, Nat.reduceAdd, eM, cM, eWs, eSs, eEs, eIs, eRs, eWrs, List.map_cons, List.map_nil, eS, eI, eR, eWr, eW, eE] at f g hA
      refine sp_of rfl 0 (by rfl) ?_
      delta c12
      simp +contextual -dsimp -implicitDefEqProofs (maxSteps := 5000000) only [haw, hbe, h1, h2, dd, List.replicate, f, g, hA, al, hb, beq_self_eq_true, Bool.true_beq, Bool.false_beq, go_sem, simprocAttr]
    · obtain ⟨A, hA, al, f, g⟩ := key 1 0 false SB (by decide +kernel) (by decide +kernel)
      simp only [SB, SZ, S50, SQ, Nat.add_assoc, Nat.reduceAdd, eM, cM, eWs, eSs, eEs, eIs, eRs, eWrs, List.map_cons, List.map_nil, eS, eI, eR, eWr, eW, eE] at f g hA
      refine sp_of rfl 0 (by rfl) ?_
      delta c12
      simp +contextual -dsimp -implicitDefEqProofs (maxSteps := 5000000) only [haw, hbe, h1, h2, dd, List.replicate, f, g, hA, al, hb, beq_self_eq_true, Bool.true_beq, Bool.false_beq, go_sem, simprocAttr]
    · obtain ⟨A, hA, al, f, g⟩ := key 2 0 true SG (by decide +kernel) (by decide +kernel)
      simp only [SG, SZ, S50, SQ, Nat.add_assoc, Nat.reduceAdd, eM, cM, eWs, eSs, eEs, eIs, eRs, eWrs, List.map_cons, List.map_nil, eS, eI, eR, eWr, eW, eE] at f g hA
      refine sp_of rfl 0 (by rfl) ?_
      delta c12
      simp +contextual -dsimp -implicitDefEqProofs (maxSteps := 5000000) only [haw, hbe, h1, h2, dd, List.replicate, f, g, hA, al, hb, beq_self_eq_true, Bool.true_beq, Bool.false_beq, go_sem, simprocAttr]
    · obtain ⟨A, hA, al, f, g⟩ := key 3 0 false SB (by decide +kernel) (by decide +kernel)
      simp only [SB, SZ, S50, SQ, Nat.add_assoc, Nat.reduceAdd, eM, cM, eWs, eSs, eEs, eIs, eRs, eWrs, List.map_cons, List.map_nil, eS, eI, eR, eWr, eW, eE] at f g hA
      refine sp_of rfl 0 (by rfl) ?_
      delta c12
      simp +contextual -dsimp -implicitDefEqProofs (maxSteps := 5000000) only [haw, hbe, h1, h2, dd, List.replicate, f, g, hA, al, hb, beq_self_eq_true, Bool.true_beq, Bool.false_beq, go_sem, simprocAttr]
  · obtain h2 | h2 | h2 | h2 : andI y 3 = 0 ∨ andI y 3 = 1 ∨ andI y 3 = 2 ∨ andI y 3 = 3 := by simp at hv; omega
    · obtain ⟨A, hA, al, f, g⟩ := key 0 6 false SB (by decide +kernel) (by decide +kernel)
      simp only [SB, SZ, S50, SQ, Nat.add_assoc, Nat.reduceAdd, eM, cM, eWs, eSs, eEs, eIs, eRs, eWrs, List.map_cons, List.map_nil, eS, eI, eR, eWr, eW, eE] at f g hA
      refine sp_of rfl 0 (by rfl) ?_
      delta c12
      simp +contextual -dsimp -implicitDefEqProofs (maxSteps := 5000000) only [haw, hbe, h1, h2, dd, List.replicate, f, g, hA, al, hb, beq_self_eq_true, Bool.true_beq, Bool.false_beq, go_sem, simprocAttr]
    · obtain ⟨A, hA, al, f, g⟩ := key 1 6 false SB (by decide +kernel) (by decide +kernel)
      simp only [SB, SZ, S50, SQ, Nat.add_assoc, Nat.reduceAdd, eM, cM, eWs, eSs, eEs, eIs, eRs, eWrs, List.map_cons, List.map_nil, eS, eI, eR, eWr, eW, eE] at f g hA
      refine sp_of rfl 0 (by rfl) ?_
      delta c12
      simp +contextual -dsimp -implicitDefEqProofs (maxSteps := 5000000) only [haw, hbe, h1, h2, dd, List.replicate, f, g, hA, al, hb, beq_self_eq_true, Bool.true_beq, Bool.false_beq, go_sem, simprocAttr]
    · obtain ⟨A, hA, al, f, g⟩ := key 2 6 false SB (by decide +kernel) (by decide +kernel)
      simp only [SB, SZ, S50, SQ, Nat.add_assoc, Nat.reduceAdd, eM, cM, eWs, eSs, eEs, eIs, eRs, eWrs, List.map_cons, List.map_nil, eS, eI, eR, eWr, eW, eE] at f g hA
      refine sp_of rfl 0 (by rfl) ?_
      delta c12
      simp +contextual -dsimp -implicitDefEqProofs (maxSteps := 5000000) only [haw, hbe, h1, h2, dd, List.replicate, f, g, hA, al, hb, beq_self_eq_true, Bool.true_beq, Bool.false_beq, go_sem, simprocAttr]
    · obtain ⟨A, hA, al, f, g⟩ := key 3 6 false SB (by decide +kernel) (by decide +kernel)
      simp only [SB, SZ, S50, SQ, Nat.add_assoc, Nat.reduceAdd, eM, cM, eWs, eSs, eEs, eIs, eRs, eWrs, List.map_cons, List.map_nil, eS, eI, eR, eWr, eW, eE] at f g hA
      refine sp_of rfl 0 (by rfl) ?_
      delta c12
      simp +contextual -dsimp -implicitDefEqProofs (maxSteps := 5000000) only [haw, hbe, h1, h2, dd, List.replicate, f, g, hA, al, hb, beq_self_eq_true, Bool.true_beq, Bool.false_beq, go_sem, simprocAttr]
end Ve
