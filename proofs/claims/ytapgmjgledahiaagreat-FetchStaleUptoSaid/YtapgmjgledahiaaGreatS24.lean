/- The reference's sets: a write more. -/
import Derived.Test.YtapgmjgledahiaaGreatS23
import Derived.Test.YtapgmjgledahiaaGreatVeP
set_option linter.all false
set_option linter.unusedSectionVars false
namespace Ve
open Go Ve.Ab
set_option maxHeartbeats 16000000
set_option maxRecDepth 10000
theorem r_withWrite (i : Nat) (pf nn : Bool) (xs : List TWrite) (hx : (xs.length : Int) * 24 ≤ 140737488355328) (a b c : Int) : pureOf (Lv ctx (i + 5)) 129 [.isl pf nn 3 (xs.map eWr), .agg [iV a, iV b, iV c]] = some (.tup [oWrs (withWrite xs ⟨a, b, c⟩).1, iV (withWrite xs ⟨a, b, c⟩).2]) := by
  have hb : xs.length ≤ BB := by simp only [BB]; omega
  have q1 := r_writes (i + 0) pf nn xs hb
  have q2 := r_writes (i + 0) false false [⟨a, b, c⟩] (by simp [BB])
  rw [writes_one] at q2
  simp only [Nat.add_assoc, Nat.reduceAdd, List.map_cons, List.map_nil, eWr] at q1 q2
  cases h1 : writesMay xs
  · have e : withWrite xs ⟨a, b, c⟩ = ([], 1000) := by simp only [withWrite, h1]; rfl
    rw [e]
    rw [h1] at q1
    refine sp_of rfl (xs.length + 1) (by rfl) ?_
    delta c129
    simp +contextual -dsimp -implicitDefEqProofs (maxSteps := 5000000) only [q1, List.map_nil, go_sem, simprocAttr]
    rfl
  · rw [h1] at q1
    cases h2 : write1 ⟨a, b, c⟩
    · have e : withWrite xs ⟨a, b, c⟩ = ([], 1000) := by simp only [withWrite, h1, h2]; rfl
      rw [e]
      rw [h2] at q2
      refine sp_of rfl (xs.length + 1) (by rfl) ?_
      delta c129
      simp +contextual -dsimp -implicitDefEqProofs (maxSteps := 5000000) only [q1, q2, List.replicate, List.map_nil, go_sem, simprocAttr]
      rfl
    · rw [h2] at q2
      have e : withWrite xs ⟨a, b, c⟩ = (insW ⟨a, b, c⟩ xs, 0) := by simp only [withWrite, h1, h2, Bool.and_self, if_true]
      obtain ⟨hw1, hso, h16⟩ := writes_may h1
      have hpw := place_ok ⟨a, b, c⟩ h2
      have hpos : plW ⟨a, b, c⟩ = 4 * a + b := rfl
      rw [e]
      by_cases hne : xs.length = 0
      · obtain rfl : xs = [] := List.eq_nil_of_length_eq_zero hne
        simp only [List.map_nil] at q1
        refine sp_of rfl 1 (by rfl) ?_
        delta c129
        have k1 : ((1 : Int) * 24 ≤ 140737488355328) = True := by simp
        simp +contextual -dsimp -implicitDefEqProofs (maxSteps := 5000000) only [q1, q2, gLs, List.replicate, List.map_nil, k1, ↓un_c (c129_1.eq_1), go_sem, simprocAttr]
        rfl
      · have hz : 0 < xs.length := by omega
        have hS : ∀ j, ∃ s : St, s = ⟨ofLive [0, 3, 6, 7, 8] [.isl pf nn 3 (xs.map eWr), .ip true [iV a, iV b, iV c] 0, .sl 1, bV ((xs.take j).any (geW ⟨a, b, c⟩)), iV j], pO (pO emptyHp 0 (some ⟨3, [.agg [iV a, iV b, iV c]], false⟩)) 1 (some ⟨3, (outW ⟨a, b, c⟩ (xs.take j)).map eWr, false⟩), 2⟩ := fun j => ⟨_, rfl⟩
        clear hS
        have tk : ∀ j x, xs[j]? = some x → xs.take (j + 1) = xs.take j ++ [x] := by
          intro j x hxj
          rw [List.take_succ, hxj]; rfl
        have bb : ∀ n : Nat, n ≤ 40 → (((n : Nat) : Int) * 24 ≤ 140737488355328) = True := by intro n hn; simp; omega
        have tl : ∀ j, (xs.take j).length ≤ 16 := fun j => by rw [List.length_take]; omega
        have ol : ∀ j, (outW ⟨a, b, c⟩ (xs.take j)).length ≤ 17 := fun j => Nat.le_trans (out_len _ _) (by have := tl j; omega)
        have z0 : ((0 : Int) < (xs.length : Int)) = True := by simp; omega
        obtain ⟨x0, hx0⟩ : ∃ x0, xs[0]? = some x0 := ⟨xs[0], by simp [hz]⟩
        have hm0 := hw1 x0 (List.mem_of_getElem? hx0)
        have hp0 := place_ok x0 hm0
        have g0 : plW x0 = 4 * x0.level + x0.index := rfl
        have t1 := tk 0 x0 hx0
        simp only [List.take_zero, List.nil_append, Nat.zero_add] at t1
        have n0 : ([] : List TWrite).any (geW ⟨a, b, c⟩) = false := rfl
        refine sp_of rfl (xs.length + 1) (by rfl) ?_
        delta c129
        simp +contextual -dsimp -implicitDefEqProofs (maxSteps := 5000000) only [q1, q2, List.replicate, go_sem, simprocAttr]
        rw [gLs]
        have rest : ∀ {f : St → (Out → St → Option Ans) → Option Ans} {q : Out → St → Option Ans} {u : Dum f} {w : Dum q}, True := trivial
        clear rest
        suffices hgo : GL 1 [0, 3, 6, 7, 8] (fun s q => evC ctx (Lv ctx (i + 4)) (pureOf (Lv ctx (i + 4))) (xs.length + 1) c129_1 s (restK [0, 3, 6, 7, 8] q)) _ xs.length ⟨ofLive [0, 3, 6, 7, 8] [.isl pf nn 3 (xs.map eWr), .ip true [iV a, iV b, iV c] 0, .sl 1, bV ((xs.take 1).any (geW ⟨a, b, c⟩)), iV 1], pO (pO emptyHp 0 (some ⟨3, [.agg [iV a, iV b, iV c]], false⟩)) 1 (some ⟨3, (outW ⟨a, b, c⟩ (xs.take 1)).map eWr, false⟩), 2⟩ _ ⟨⟩ ⟨⟩ by
          rcases Int.lt_trichotomy (plW x0) (plW ⟨a, b, c⟩) with hlt | heq | hgt
          · obtain ⟨o1, o2⟩ := out_skip n0 hlt
            rw [List.nil_append] at o1 o2
            rw [t1, o1, o2] at hgo
            have c1 : decide (4 * a + b ≤ 4 * x0.level + x0.index) = false := by rw [g0, hpos] at hlt; simp; omega
            have c2 : decide (4 * x0.level + x0.index = 4 * a + b) = false := by rw [g0, hpos] at hlt; simp; omega
            have k1 : ((1 : Int) * 24 ≤ 140737488355328) = True := by simp
            simp +contextual -dsimp -implicitDefEqProofs (maxSteps := 5000000) only [z0, hx0, hp0, hpw, c1, c2, List.replicate, k1, ↓un_c (c129_1.eq_1), go_sem, simprocAttr]
            exact gl_norm hgo (by rfl)
          · obtain ⟨o1, o2⟩ := out_same n0 heq
            rw [List.nil_append] at o1 o2
            rw [t1, o1, o2] at hgo
            have c1 : decide (4 * a + b ≤ 4 * x0.level + x0.index) = true := by rw [g0, hpos] at heq; simp; omega
            have c2 : decide (4 * x0.level + x0.index = 4 * a + b) = true := by rw [g0, hpos] at heq; simp; omega
            have k1 : ((1 : Int) * 24 ≤ 140737488355328) = True := by simp
            simp +contextual -dsimp -implicitDefEqProofs (maxSteps := 5000000) only [z0, hx0, hp0, hpw, c1, c2, List.replicate, k1, ↓un_c (c129_1.eq_1), go_sem, simprocAttr]
            exact gl_norm hgo (by rfl)
          · obtain ⟨o1, o2⟩ := out_new n0 hgt
            rw [List.nil_append, List.nil_append] at o1
            rw [List.nil_append] at o2
            rw [t1, o1, o2] at hgo
            have c1 : decide (4 * a + b ≤ 4 * x0.level + x0.index) = true := by rw [g0, hpos] at hgt; simp; omega
            have c2 : decide (4 * x0.level + x0.index = 4 * a + b) = false := by rw [g0, hpos] at hgt; simp; omega
            have k1 : ((1 : Int) * 24 ≤ 140737488355328) = True := by simp
            have k2 : ((2 : Int) * 24 ≤ 140737488355328) = True := by simp
            simp +contextual -dsimp -implicitDefEqProofs (maxSteps := 5000000) only [z0, hx0, hp0, hpw, c1, c2, List.replicate, k1, k2, ↓un_c (c129_1.eq_1), go_sem, simprocAttr]
            exact gl_norm hgo (by rfl)
        refine gl_go (fun j => ⟨ofLive [0, 3, 6, 7, 8] [.isl pf nn 3 (xs.map eWr), .ip true [iV a, iV b, iV c] 0, .sl 1, bV ((xs.take j).any (geW ⟨a, b, c⟩)), iV j], pO (pO emptyHp 0 (some ⟨3, [.agg [iV a, iV b, iV c]], false⟩)) 1 (some ⟨3, (outW ⟨a, b, c⟩ (xs.take j)).map eWr, false⟩), 2⟩) xs.length (fun _ => true) ?_ (fun _ _ _ h => by cases h) ?_ (xs.length - 1) 1 xs.length (by omega) (by omega) (fun _ _ => rfl)
        · intro j kk hj _ hl
          obtain ⟨x, hxj⟩ : ∃ x, xs[j]? = some x := ⟨xs[j], by simp [hj]⟩
          have hmx := hw1 x (List.mem_of_getElem? hxj)
          have hpx := place_ok x hmx
          have gx : plW x = 4 * x.level + x.index := rfl
          have l1 : ((j : Int) < (xs.length : Int)) = True := by simpa using hj
          have l2 : (0 ≤ (j : Int)) = True := by simp
          have l3 := wrN j (by omega)
          have hlen := ol j
          have hpre : ∀ y ∈ xs.take j, plW y < plW x := by
            intro y hy
            obtain ⟨i', hi', rfl⟩ := List.mem_iff_getElem.1 hy
            rw [List.length_take] at hi'
            have h3 := (List.pairwise_iff_getElem.1 hso) i' j (by omega) hj (by omega)
            have hxe : xs[j] = x := by rw [List.getElem?_eq_getElem hj] at hxj; exact Option.some.inj hxj
            rw [hxe] at h3
            simpa using h3
          simp only [tk j x hxj] at hl
          have k1 : ((((outW ⟨a, b, c⟩ (xs.take j)).length + 1 : Nat) : Int) * 24 ≤ 140737488355328) = True := bb _ (by omega)
          have k2 : ((((outW ⟨a, b, c⟩ (xs.take j)).length + 1 + 1 : Nat) : Int) * 24 ≤ 140737488355328) = True := bb _ (by omega)
          cases hd : (xs.take j).any (geW ⟨a, b, c⟩)
          · have ho : outW ⟨a, b, c⟩ (xs.take j) = xs.take j := by simp only [outW, hd]; rfl
            rcases Int.lt_trichotomy (plW x) (plW ⟨a, b, c⟩) with hlt | heq | hgt
            · obtain ⟨o1, o2⟩ := out_skip hd hlt
              rw [o1, o2, ← ho] at hl
              have c1 : decide (4 * a + b ≤ 4 * x.level + x.index) = false := by rw [gx, hpos] at hlt; simp; omega
              have c2 : decide (4 * x.level + x.index = 4 * a + b) = false := by rw [gx, hpos] at hlt; simp; omega
              simp +contextual -dsimp -implicitDefEqProofs (maxSteps := 5000000) only [l1, l2, l3, hxj, hpx, hpw, c1, c2, List.replicate, k1, k2, ↓un_c (c129_1.eq_1), go_sem, simprocAttr]
              refine gl_norm hl ?_
              simp only [List.map_append]; rfl
            · obtain ⟨o1, o2⟩ := out_same hd heq
              rw [o1, o2, ← ho] at hl
              have c1 : decide (4 * a + b ≤ 4 * x.level + x.index) = true := by rw [gx, hpos] at heq; simp; omega
              have c2 : decide (4 * x.level + x.index = 4 * a + b) = true := by rw [gx, hpos] at heq; simp; omega
              simp +contextual -dsimp -implicitDefEqProofs (maxSteps := 5000000) only [l1, l2, l3, hxj, hpx, hpw, c1, c2, List.replicate, k1, k2, ↓un_c (c129_1.eq_1), go_sem, simprocAttr]
              refine gl_norm hl ?_
              simp only [List.map_append]; rfl
            · obtain ⟨o1, o2⟩ := out_new hd hgt
              rw [o1, o2, ← ho] at hl
              have c1 : decide (4 * a + b ≤ 4 * x.level + x.index) = true := by rw [gx, hpos] at hgt; simp; omega
              have c2 : decide (4 * x.level + x.index = 4 * a + b) = false := by rw [gx, hpos] at hgt; simp; omega
              simp +contextual -dsimp -implicitDefEqProofs (maxSteps := 5000000) only [l1, l2, l3, hxj, hpx, hpw, c1, c2, List.replicate, List.length_append, k1, k2, ↓un_c (c129_1.eq_1), go_sem, simprocAttr]
              refine gl_norm hl ?_
              simp only [List.map_append]; rfl
          · obtain ⟨o1, o2⟩ := out_more (x := x) hd
            rw [o1, o2] at hl
            have hgt := any_lt hd hpre
            have c2 : decide (4 * x.level + x.index = 4 * a + b) = false := by rw [gx, hpos] at hgt; simp; omega
            simp +contextual -dsimp -implicitDefEqProofs (maxSteps := 5000000) only [l1, l2, l3, hxj, hpx, hpw, hd, c2, List.replicate, k1, k2, ↓un_c (c129_1.eq_1), go_sem, simprocAttr]
            refine gl_norm hl ?_
            simp only [List.map_append]; rfl
        · intro kk _
          have l0 : decide ((xs.length : Int) < (xs.length : Int)) = false := by simp
          have tf : xs.take xs.length = xs := List.take_length
          have k1 : (((xs.length + 1 : Nat) : Int) * 24 ≤ 140737488355328) = True := bb _ (by omega)
          rw [out_end (w := ⟨a, b, c⟩) (l := xs)]
          simp only [tf]
          cases hd : xs.any (geW ⟨a, b, c⟩)
          · have ho : outW ⟨a, b, c⟩ xs = xs := by simp only [outW, hd]; rfl
            rw [ho]
            simp +contextual -dsimp -implicitDefEqProofs (maxSteps := 5000000) only [l0, k1, hd, List.replicate, ↓un_c (c129_1.eq_1), go_sem, simprocAttr]
            simp only [oWrs, List.map_append, List.map_cons, List.map_nil, eWr]
          · simp +contextual -dsimp -implicitDefEqProofs (maxSteps := 5000000) only [l0, hd, List.replicate, ↓un_c (c129_1.eq_1), go_sem, simprocAttr]
end Ve
