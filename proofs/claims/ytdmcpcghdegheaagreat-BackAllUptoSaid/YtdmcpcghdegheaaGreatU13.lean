/- The statement BackAll. -/
import Derived.Test.YtdmcpcghdegheaaGreatU9
import Derived.Test.YtdmcpcghdegheaaGreatU2
import Derived.Test.YtdmcpcghdegheaaGreatPL7
set_option linter.all false
set_option linter.unusedSectionVars false
namespace Ve
open Go Ve.Ab
set_option maxRecDepth 20000
set_option linter.unusedSimpArgs false
set_option linter.unusedVariables false
def M00 : TMach := ⟨⟨[⟨5, 0, 0⟩, ⟨6, 0, 0⟩], [⟨7, 0, 0⟩], [], [⟨9, 0, 0⟩]⟩, ⟨0, 0, 0, 0⟩, 9, [⟨3, 0, 3, [⟨2, 0, 0, 0⟩, ⟨1, 0, 0, 0⟩, ⟨3, 0, 0, 0⟩], 0, 0, ⟨0, 0, 0, 0⟩, [], [], 0, 0, 0, 0, 0⟩, BS5], []⟩
theorem ws_all {ws : List TWrite} (h : (ws.all fun w => decide (w.level = 0)) = true) : ∀ w ∈ ws, w.level = 0 := by
  intro w hw
  have := (List.all_eq_true.1 h) w hw
  simpa using this
set_option maxHeartbeats 8000000 in
theorem u_all0 (i : Nat) (bits x y v c : Int) (B0 B1 B2 B3 : Int) (hv : inR v 127 = true) (hc : inR c 65535 = true) (ev : andI x 127 = v) (ec : andI y 65535 = c)
    (s0 : ∀ t, opBin lay .shr t (iV bits) (iV 0) = some (iV B0)) (s1 : ∀ t, opBin lay .shr t (iV bits) (iV 1) = some (iV B1)) (s2 : ∀ t, opBin lay .shr t (iV bits) (iV 2) = some (iV B2)) (s3 : ∀ t, opBin lay .shr t (iV bits) (iV 3) = some (iV B3))
    (b0 : decide (andI B0 1 = 1) = false) (b1 : decide (andI B1 1 = 1) = false) (b2 : decide (andI B2 1 = 1) = false) (b3 : decide (andI B3 1 = 1) = false)
    (haw : pureOf (Lv ctx (i + 23)) 31 [] = some (bV true)) (hbe : pureOf (Lv ctx (i + 23)) 33 [] = some (oM M00)) : pureOf (Lv ctx (i + 24)) 12 [iV bits, iV x, iV y] = some (bV true) := by
  have hv' := inR_le.1 hv
  have hc' := inR_le.1 hc
  have w0 : IntKind.wrap .i64 (v + 0) = v := by rw [Int.add_zero]; exact wrap_small (by omega) (by omega)
  have w1 : IntKind.wrap .i64 (v + 1) = v + 1 := wrap_small (by omega) (by omega)
  have w2 : IntKind.wrap .i64 (v + 2) = v + 2 := wrap_small (by omega) (by omega)
  have w3 : IntKind.wrap .i64 (v + 3) = v + 3 := wrap_small (by omega) (by omega)
  have r0 : inR v 255 = true := by rw [inR_le]; omega
  have r1 : inR (v + 1) 255 = true := by rw [inR_le]; omega
  have r2 : inR (v + 2) 255 = true := by rw [inR_le]; omega
  have r3 : inR (v + 3) 255 = true := by rw [inR_le]; omega
  have dd : ∀ n : Int, decide (n = n) = true := fun n => by simp
  have hss : M00.sess.map oS = [oS ⟨3, 0, 3, [⟨2, 0, 0, 0⟩, ⟨1, 0, 0, 0⟩, ⟨3, 0, 0, 0⟩], 0, 0, ⟨0, 0, 0, 0⟩, [], [], 0, 0, 0, 0, 0⟩, oS ⟨5, 1, 1, [⟨2, 0, 0, 1⟩, ⟨3, 0, 1, 0⟩], 0, 0, ⟨0, 0, 0, 0⟩, [], [], 0, 0, 0, 0, 0⟩] := rfl
  have hl : ((M00.sess.length : Nat) : Int) = 2 := rfl
  have k4 : ((4 : Nat) : Int) = 4 := rfl
  have m1 : ((1 : Int) * ((24 : Nat) : Int) ≤ 140737488355328) = True := by simp
  have m2 : ((2 : Int) * ((24 : Nat) : Int) ≤ 140737488355328) = True := by simp
  have m3 : ((3 : Int) * ((24 : Nat) : Int) ≤ 140737488355328) = True := by simp
  have m4 : ((4 : Int) * ((24 : Nat) : Int) ≤ 140737488355328) = True := by simp
  simp only [M00, BS5, oM, cO, oWs, oSs, oEs, oIs, oRs, oWrs, List.map_cons, List.map_nil, oS, eI, eR, eWr, eW, eE] at hbe
  refine sp_of rfl 6 (by rfl) ?_
  delta c12
  simp (config := { contextual := true, dsimp := false, implicitDefEqProofs := false, maxSteps := 5000000 }) only [haw, hbe, ev, ec, s0, s1, s2, s3, b0, b1, b2, b3, w0, w1, w2, w3, dd, hss, hl, k4, m1, m2, m3, m4, List.replicate, gLs, ↓un_c (c12_1.eq_1), ↓un_c (c12_2.eq_1), ↓un_c (c12_3.eq_1), go_sem, Nat.reduceEqDiff, Nat.reduceAdd, Nat.reduceLeDiff, Nat.reduceMul, Nat.reduceLT, Nat.reduceBEq, Int.reduceLT, Int.reduceLE, Int.reduceToNat, Int.reduceAdd, Int.reduceSub, Int.reduceEq, Int.reduceNeg, ↓reduceIte]
set_option maxHeartbeats 8000000 in
theorem u_all1 (i : Nat) (bits x y v c : Int) (B0 B1 B2 B3 : Int) (hv : inR v 127 = true) (hc : inR c 65535 = true) (ev : andI x 127 = v) (ec : andI y 65535 = c)
    (s0 : ∀ t, opBin lay .shr t (iV bits) (iV 0) = some (iV B0)) (s1 : ∀ t, opBin lay .shr t (iV bits) (iV 1) = some (iV B1)) (s2 : ∀ t, opBin lay .shr t (iV bits) (iV 2) = some (iV B2)) (s3 : ∀ t, opBin lay .shr t (iV bits) (iV 3) = some (iV B3))
    (b0 : decide (andI B0 1 = 1) = true) (b1 : decide (andI B1 1 = 1) = false) (b2 : decide (andI B2 1 = 1) = false) (b3 : decide (andI B3 1 = 1) = false)
    (haw : pureOf (Lv ctx (i + 23)) 31 [] = some (bV true)) (hbe : pureOf (Lv ctx (i + 23)) 33 [] = some (oM M00)) : pureOf (Lv ctx (i + 24)) 12 [iV bits, iV x, iV y] = some (bV true) := by
  have hv' := inR_le.1 hv
  have hc' := inR_le.1 hc
  have w0 : IntKind.wrap .i64 (v + 0) = v := by rw [Int.add_zero]; exact wrap_small (by omega) (by omega)
  have w1 : IntKind.wrap .i64 (v + 1) = v + 1 := wrap_small (by omega) (by omega)
  have w2 : IntKind.wrap .i64 (v + 2) = v + 2 := wrap_small (by omega) (by omega)
  have w3 : IntKind.wrap .i64 (v + 3) = v + 3 := wrap_small (by omega) (by omega)
  have r0 : inR v 255 = true := by rw [inR_le]; omega
  have r1 : inR (v + 1) 255 = true := by rw [inR_le]; omega
  have r2 : inR (v + 2) 255 = true := by rw [inR_le]; omega
  have r3 : inR (v + 3) 255 = true := by rw [inR_le]; omega
  have dd : ∀ n : Int, decide (n = n) = true := fun n => by simp
  have hss : M00.sess.map oS = [oS ⟨3, 0, 3, [⟨2, 0, 0, 0⟩, ⟨1, 0, 0, 0⟩, ⟨3, 0, 0, 0⟩], 0, 0, ⟨0, 0, 0, 0⟩, [], [], 0, 0, 0, 0, 0⟩, oS ⟨5, 1, 1, [⟨2, 0, 0, 1⟩, ⟨3, 0, 1, 0⟩], 0, 0, ⟨0, 0, 0, 0⟩, [], [], 0, 0, 0, 0, 0⟩] := rfl
  have hl : ((M00.sess.length : Nat) : Int) = 2 := rfl
  have k4 : ((4 : Nat) : Int) = 4 := rfl
  have m1 : ((1 : Int) * ((24 : Nat) : Int) ≤ 140737488355328) = True := by simp
  have m2 : ((2 : Int) * ((24 : Nat) : Int) ≤ 140737488355328) = True := by simp
  have m3 : ((3 : Int) * ((24 : Nat) : Int) ≤ 140737488355328) = True := by simp
  have m4 : ((4 : Int) * ((24 : Nat) : Int) ≤ 140737488355328) = True := by simp
  have hw : writesMay [⟨0, 0, v⟩] = true := by simp [writesMay, writesGo, write1, place, r0, r1, r2, r3]; try decide
  have f0 := s_back (i + 1) false (BA [⟨0, 0, 4⟩, ⟨0, 0, 4⟩, ⟨0, 0, 4⟩, ⟨0, 0, 4⟩] [⟨0, 0, v⟩] 0 c) (ba_sm (by rfl) (by simp)) 0
  have g0 : backM (BA [⟨0, 0, 4⟩, ⟨0, 0, 4⟩, ⟨0, 0, 4⟩, ⟨0, 0, 4⟩] [⟨0, 0, v⟩] 0 c) 0 = (BE [⟨v, c, 0⟩, ⟨0, 0, 0⟩, ⟨0, 0, 0⟩, ⟨0, 0, 0⟩], 0) := by
    have := ba_step (n := 0) (rows := [⟨0, 0, 4⟩, ⟨0, 0, 4⟩, ⟨0, 0, 4⟩, ⟨0, 0, 4⟩]) (ws := [⟨0, 0, v⟩]) (c := c) (by rfl) (by simp [rowMay, wordMay, hc, r0, r1, r2, r3]; try decide) hw (ws_all (by rfl)) hc (by rfl)
    rw [show (((0 : Nat)) : Int) = 0 from rfl] at this
    rw [this]
    simp [freeW]
  rw [g0] at f0
  simp only [Nat.add_assoc, Nat.reduceAdd, BA, BAs, BE, BEs, BS5, oM, cO, oWs, oSs, oEs, oIs, oRs, oWrs, oS, eM, cM, eWs, eSs, eEs, eIs, eRs, eWrs, List.map_cons, List.map_nil, eS, eI, eR, eWr, eW, eE] at f0
  simp only [M00, BS5, oM, cO, oWs, oSs, oEs, oIs, oRs, oWrs, List.map_cons, List.map_nil, oS, eI, eR, eWr, eW, eE] at hbe
  refine sp_of rfl 6 (by rfl) ?_
  delta c12
  simp (config := { contextual := true, dsimp := false, implicitDefEqProofs := false, maxSteps := 5000000 }) only [haw, hbe, ev, ec, s0, s1, s2, s3, b0, b1, b2, b3, w0, w1, w2, w3, dd, hss, hl, k4, m1, m2, m3, m4, List.replicate, gLs, ↓un_c (c12_1.eq_1), ↓un_c (c12_2.eq_1), ↓un_c (c12_3.eq_1), f0, go_sem, Nat.reduceEqDiff, Nat.reduceAdd, Nat.reduceLeDiff, Nat.reduceMul, Nat.reduceLT, Nat.reduceBEq, Int.reduceLT, Int.reduceLE, Int.reduceToNat, Int.reduceAdd, Int.reduceSub, Int.reduceEq, Int.reduceNeg, ↓reduceIte]
set_option maxHeartbeats 8000000 in
theorem u_all2 (i : Nat) (bits x y v c : Int) (B0 B1 B2 B3 : Int) (hv : inR v 127 = true) (hc : inR c 65535 = true) (ev : andI x 127 = v) (ec : andI y 65535 = c)
    (s0 : ∀ t, opBin lay .shr t (iV bits) (iV 0) = some (iV B0)) (s1 : ∀ t, opBin lay .shr t (iV bits) (iV 1) = some (iV B1)) (s2 : ∀ t, opBin lay .shr t (iV bits) (iV 2) = some (iV B2)) (s3 : ∀ t, opBin lay .shr t (iV bits) (iV 3) = some (iV B3))
    (b0 : decide (andI B0 1 = 1) = false) (b1 : decide (andI B1 1 = 1) = true) (b2 : decide (andI B2 1 = 1) = false) (b3 : decide (andI B3 1 = 1) = false)
    (haw : pureOf (Lv ctx (i + 23)) 31 [] = some (bV true)) (hbe : pureOf (Lv ctx (i + 23)) 33 [] = some (oM M00)) : pureOf (Lv ctx (i + 24)) 12 [iV bits, iV x, iV y] = some (bV true) := by
  have hv' := inR_le.1 hv
  have hc' := inR_le.1 hc
  have w0 : IntKind.wrap .i64 (v + 0) = v := by rw [Int.add_zero]; exact wrap_small (by omega) (by omega)
  have w1 : IntKind.wrap .i64 (v + 1) = v + 1 := wrap_small (by omega) (by omega)
  have w2 : IntKind.wrap .i64 (v + 2) = v + 2 := wrap_small (by omega) (by omega)
  have w3 : IntKind.wrap .i64 (v + 3) = v + 3 := wrap_small (by omega) (by omega)
  have r0 : inR v 255 = true := by rw [inR_le]; omega
  have r1 : inR (v + 1) 255 = true := by rw [inR_le]; omega
  have r2 : inR (v + 2) 255 = true := by rw [inR_le]; omega
  have r3 : inR (v + 3) 255 = true := by rw [inR_le]; omega
  have dd : ∀ n : Int, decide (n = n) = true := fun n => by simp
  have hss : M00.sess.map oS = [oS ⟨3, 0, 3, [⟨2, 0, 0, 0⟩, ⟨1, 0, 0, 0⟩, ⟨3, 0, 0, 0⟩], 0, 0, ⟨0, 0, 0, 0⟩, [], [], 0, 0, 0, 0, 0⟩, oS ⟨5, 1, 1, [⟨2, 0, 0, 1⟩, ⟨3, 0, 1, 0⟩], 0, 0, ⟨0, 0, 0, 0⟩, [], [], 0, 0, 0, 0, 0⟩] := rfl
  have hl : ((M00.sess.length : Nat) : Int) = 2 := rfl
  have k4 : ((4 : Nat) : Int) = 4 := rfl
  have m1 : ((1 : Int) * ((24 : Nat) : Int) ≤ 140737488355328) = True := by simp
  have m2 : ((2 : Int) * ((24 : Nat) : Int) ≤ 140737488355328) = True := by simp
  have m3 : ((3 : Int) * ((24 : Nat) : Int) ≤ 140737488355328) = True := by simp
  have m4 : ((4 : Int) * ((24 : Nat) : Int) ≤ 140737488355328) = True := by simp
  have hw : writesMay [⟨0, 1, v + 1⟩] = true := by simp [writesMay, writesGo, write1, place, r0, r1, r2, r3]; try decide
  have f0 := s_back (i + 1) false (BA [⟨0, 0, 4⟩, ⟨0, 0, 4⟩, ⟨0, 0, 4⟩, ⟨0, 0, 4⟩] [⟨0, 1, v + 1⟩] 0 c) (ba_sm (by rfl) (by simp)) 0
  have g0 : backM (BA [⟨0, 0, 4⟩, ⟨0, 0, 4⟩, ⟨0, 0, 4⟩, ⟨0, 0, 4⟩] [⟨0, 1, v + 1⟩] 0 c) 0 = (BE [⟨0, 0, 0⟩, ⟨v + 1, c, 0⟩, ⟨0, 0, 0⟩, ⟨0, 0, 0⟩], 0) := by
    have := ba_step (n := 0) (rows := [⟨0, 0, 4⟩, ⟨0, 0, 4⟩, ⟨0, 0, 4⟩, ⟨0, 0, 4⟩]) (ws := [⟨0, 1, v + 1⟩]) (c := c) (by rfl) (by simp [rowMay, wordMay, hc, r0, r1, r2, r3]; try decide) hw (ws_all (by rfl)) hc (by rfl)
    rw [show (((0 : Nat)) : Int) = 0 from rfl] at this
    rw [this]
    simp [freeW]
  rw [g0] at f0
  simp only [Nat.add_assoc, Nat.reduceAdd, BA, BAs, BE, BEs, BS5, oM, cO, oWs, oSs, oEs, oIs, oRs, oWrs, oS, eM, cM, eWs, eSs, eEs, eIs, eRs, eWrs, List.map_cons, List.map_nil, eS, eI, eR, eWr, eW, eE] at f0
  simp only [M00, BS5, oM, cO, oWs, oSs, oEs, oIs, oRs, oWrs, List.map_cons, List.map_nil, oS, eI, eR, eWr, eW, eE] at hbe
  refine sp_of rfl 6 (by rfl) ?_
  delta c12
  simp (config := { contextual := true, dsimp := false, implicitDefEqProofs := false, maxSteps := 5000000 }) only [haw, hbe, ev, ec, s0, s1, s2, s3, b0, b1, b2, b3, w0, w1, w2, w3, dd, hss, hl, k4, m1, m2, m3, m4, List.replicate, gLs, ↓un_c (c12_1.eq_1), ↓un_c (c12_2.eq_1), ↓un_c (c12_3.eq_1), f0, go_sem, Nat.reduceEqDiff, Nat.reduceAdd, Nat.reduceLeDiff, Nat.reduceMul, Nat.reduceLT, Nat.reduceBEq, Int.reduceLT, Int.reduceLE, Int.reduceToNat, Int.reduceAdd, Int.reduceSub, Int.reduceEq, Int.reduceNeg, ↓reduceIte]
set_option maxHeartbeats 8000000 in
theorem u_all3 (i : Nat) (bits x y v c : Int) (B0 B1 B2 B3 : Int) (hv : inR v 127 = true) (hc : inR c 65535 = true) (ev : andI x 127 = v) (ec : andI y 65535 = c)
    (s0 : ∀ t, opBin lay .shr t (iV bits) (iV 0) = some (iV B0)) (s1 : ∀ t, opBin lay .shr t (iV bits) (iV 1) = some (iV B1)) (s2 : ∀ t, opBin lay .shr t (iV bits) (iV 2) = some (iV B2)) (s3 : ∀ t, opBin lay .shr t (iV bits) (iV 3) = some (iV B3))
    (b0 : decide (andI B0 1 = 1) = true) (b1 : decide (andI B1 1 = 1) = true) (b2 : decide (andI B2 1 = 1) = false) (b3 : decide (andI B3 1 = 1) = false)
    (haw : pureOf (Lv ctx (i + 23)) 31 [] = some (bV true)) (hbe : pureOf (Lv ctx (i + 23)) 33 [] = some (oM M00)) : pureOf (Lv ctx (i + 24)) 12 [iV bits, iV x, iV y] = some (bV true) := by
  have hv' := inR_le.1 hv
  have hc' := inR_le.1 hc
  have w0 : IntKind.wrap .i64 (v + 0) = v := by rw [Int.add_zero]; exact wrap_small (by omega) (by omega)
  have w1 : IntKind.wrap .i64 (v + 1) = v + 1 := wrap_small (by omega) (by omega)
  have w2 : IntKind.wrap .i64 (v + 2) = v + 2 := wrap_small (by omega) (by omega)
  have w3 : IntKind.wrap .i64 (v + 3) = v + 3 := wrap_small (by omega) (by omega)
  have r0 : inR v 255 = true := by rw [inR_le]; omega
  have r1 : inR (v + 1) 255 = true := by rw [inR_le]; omega
  have r2 : inR (v + 2) 255 = true := by rw [inR_le]; omega
  have r3 : inR (v + 3) 255 = true := by rw [inR_le]; omega
  have dd : ∀ n : Int, decide (n = n) = true := fun n => by simp
  have hss : M00.sess.map oS = [oS ⟨3, 0, 3, [⟨2, 0, 0, 0⟩, ⟨1, 0, 0, 0⟩, ⟨3, 0, 0, 0⟩], 0, 0, ⟨0, 0, 0, 0⟩, [], [], 0, 0, 0, 0, 0⟩, oS ⟨5, 1, 1, [⟨2, 0, 0, 1⟩, ⟨3, 0, 1, 0⟩], 0, 0, ⟨0, 0, 0, 0⟩, [], [], 0, 0, 0, 0, 0⟩] := rfl
  have hl : ((M00.sess.length : Nat) : Int) = 2 := rfl
  have k4 : ((4 : Nat) : Int) = 4 := rfl
  have m1 : ((1 : Int) * ((24 : Nat) : Int) ≤ 140737488355328) = True := by simp
  have m2 : ((2 : Int) * ((24 : Nat) : Int) ≤ 140737488355328) = True := by simp
  have m3 : ((3 : Int) * ((24 : Nat) : Int) ≤ 140737488355328) = True := by simp
  have m4 : ((4 : Int) * ((24 : Nat) : Int) ≤ 140737488355328) = True := by simp
  have hw : writesMay [⟨0, 0, v⟩, ⟨0, 1, v + 1⟩] = true := by simp [writesMay, writesGo, write1, place, r0, r1, r2, r3]; try decide
  have f0 := s_back (i + 1) false (BA [⟨0, 0, 4⟩, ⟨0, 0, 4⟩, ⟨0, 0, 4⟩, ⟨0, 0, 4⟩] [⟨0, 0, v⟩, ⟨0, 1, v + 1⟩] 0 c) (ba_sm (by rfl) (by simp)) 0
  have g0 : backM (BA [⟨0, 0, 4⟩, ⟨0, 0, 4⟩, ⟨0, 0, 4⟩, ⟨0, 0, 4⟩] [⟨0, 0, v⟩, ⟨0, 1, v + 1⟩] 0 c) 0 = (BA [⟨v, c, 0⟩, ⟨0, 0, 4⟩, ⟨0, 0, 4⟩, ⟨0, 0, 4⟩] [⟨0, 0, v⟩, ⟨0, 1, v + 1⟩] 1 c, 0) := by
    have := ba_step (n := 0) (rows := [⟨0, 0, 4⟩, ⟨0, 0, 4⟩, ⟨0, 0, 4⟩, ⟨0, 0, 4⟩]) (ws := [⟨0, 0, v⟩, ⟨0, 1, v + 1⟩]) (c := c) (by rfl) (by simp [rowMay, wordMay, hc, r0, r1, r2, r3]; try decide) hw (ws_all (by rfl)) hc (by rfl)
    rw [show (((0 : Nat)) : Int) = 0 from rfl] at this
    rw [this]
    simp [freeW]
  rw [g0] at f0
  have f1 := s_back (i + 1) true (BA [⟨v, c, 0⟩, ⟨0, 0, 4⟩, ⟨0, 0, 4⟩, ⟨0, 0, 4⟩] [⟨0, 0, v⟩, ⟨0, 1, v + 1⟩] 1 c) (ba_sm (by rfl) (by simp)) 0
  have g1 : backM (BA [⟨v, c, 0⟩, ⟨0, 0, 4⟩, ⟨0, 0, 4⟩, ⟨0, 0, 4⟩] [⟨0, 0, v⟩, ⟨0, 1, v + 1⟩] 1 c) 0 = (BE [⟨v, c, 0⟩, ⟨v + 1, c, 0⟩, ⟨0, 0, 0⟩, ⟨0, 0, 0⟩], 0) := by
    have := ba_step (n := 1) (rows := [⟨v, c, 0⟩, ⟨0, 0, 4⟩, ⟨0, 0, 4⟩, ⟨0, 0, 4⟩]) (ws := [⟨0, 0, v⟩, ⟨0, 1, v + 1⟩]) (c := c) (by rfl) (by simp [rowMay, wordMay, hc, r0, r1, r2, r3]; try decide) hw (ws_all (by rfl)) hc (by rfl)
    rw [show (((1 : Nat)) : Int) = 1 from rfl] at this
    rw [this]
    simp [freeW]
  rw [g1] at f1
  simp only [Nat.add_assoc, Nat.reduceAdd, BA, BAs, BE, BEs, BS5, oM, cO, oWs, oSs, oEs, oIs, oRs, oWrs, oS, eM, cM, eWs, eSs, eEs, eIs, eRs, eWrs, List.map_cons, List.map_nil, eS, eI, eR, eWr, eW, eE] at f0 f1
  simp only [M00, BS5, oM, cO, oWs, oSs, oEs, oIs, oRs, oWrs, List.map_cons, List.map_nil, oS, eI, eR, eWr, eW, eE] at hbe
  refine sp_of rfl 6 (by rfl) ?_
  delta c12
  simp (config := { contextual := true, dsimp := false, implicitDefEqProofs := false, maxSteps := 5000000 }) only [haw, hbe, ev, ec, s0, s1, s2, s3, b0, b1, b2, b3, w0, w1, w2, w3, dd, hss, hl, k4, m1, m2, m3, m4, List.replicate, gLs, ↓un_c (c12_1.eq_1), ↓un_c (c12_2.eq_1), ↓un_c (c12_3.eq_1), f0, f1, go_sem, Nat.reduceEqDiff, Nat.reduceAdd, Nat.reduceLeDiff, Nat.reduceMul, Nat.reduceLT, Nat.reduceBEq, Int.reduceLT, Int.reduceLE, Int.reduceToNat, Int.reduceAdd, Int.reduceSub, Int.reduceEq, Int.reduceNeg, ↓reduceIte]
set_option maxHeartbeats 8000000 in
theorem u_all4 (i : Nat) (bits x y v c : Int) (B0 B1 B2 B3 : Int) (hv : inR v 127 = true) (hc : inR c 65535 = true) (ev : andI x 127 = v) (ec : andI y 65535 = c)
    (s0 : ∀ t, opBin lay .shr t (iV bits) (iV 0) = some (iV B0)) (s1 : ∀ t, opBin lay .shr t (iV bits) (iV 1) = some (iV B1)) (s2 : ∀ t, opBin lay .shr t (iV bits) (iV 2) = some (iV B2)) (s3 : ∀ t, opBin lay .shr t (iV bits) (iV 3) = some (iV B3))
    (b0 : decide (andI B0 1 = 1) = false) (b1 : decide (andI B1 1 = 1) = false) (b2 : decide (andI B2 1 = 1) = true) (b3 : decide (andI B3 1 = 1) = false)
    (haw : pureOf (Lv ctx (i + 23)) 31 [] = some (bV true)) (hbe : pureOf (Lv ctx (i + 23)) 33 [] = some (oM M00)) : pureOf (Lv ctx (i + 24)) 12 [iV bits, iV x, iV y] = some (bV true) := by
  have hv' := inR_le.1 hv
  have hc' := inR_le.1 hc
  have w0 : IntKind.wrap .i64 (v + 0) = v := by rw [Int.add_zero]; exact wrap_small (by omega) (by omega)
  have w1 : IntKind.wrap .i64 (v + 1) = v + 1 := wrap_small (by omega) (by omega)
  have w2 : IntKind.wrap .i64 (v + 2) = v + 2 := wrap_small (by omega) (by omega)
  have w3 : IntKind.wrap .i64 (v + 3) = v + 3 := wrap_small (by omega) (by omega)
  have r0 : inR v 255 = true := by rw [inR_le]; omega
  have r1 : inR (v + 1) 255 = true := by rw [inR_le]; omega
  have r2 : inR (v + 2) 255 = true := by rw [inR_le]; omega
  have r3 : inR (v + 3) 255 = true := by rw [inR_le]; omega
  have dd : ∀ n : Int, decide (n = n) = true := fun n => by simp
  have hss : M00.sess.map oS = [oS ⟨3, 0, 3, [⟨2, 0, 0, 0⟩, ⟨1, 0, 0, 0⟩, ⟨3, 0, 0, 0⟩], 0, 0, ⟨0, 0, 0, 0⟩, [], [], 0, 0, 0, 0, 0⟩, oS ⟨5, 1, 1, [⟨2, 0, 0, 1⟩, ⟨3, 0, 1, 0⟩], 0, 0, ⟨0, 0, 0, 0⟩, [], [], 0, 0, 0, 0, 0⟩] := rfl
  have hl : ((M00.sess.length : Nat) : Int) = 2 := rfl
  have k4 : ((4 : Nat) : Int) = 4 := rfl
  have m1 : ((1 : Int) * ((24 : Nat) : Int) ≤ 140737488355328) = True := by simp
  have m2 : ((2 : Int) * ((24 : Nat) : Int) ≤ 140737488355328) = True := by simp
  have m3 : ((3 : Int) * ((24 : Nat) : Int) ≤ 140737488355328) = True := by simp
  have m4 : ((4 : Int) * ((24 : Nat) : Int) ≤ 140737488355328) = True := by simp
  have hw : writesMay [⟨0, 2, v + 2⟩] = true := by simp [writesMay, writesGo, write1, place, r0, r1, r2, r3]; try decide
  have f0 := s_back (i + 1) false (BA [⟨0, 0, 4⟩, ⟨0, 0, 4⟩, ⟨0, 0, 4⟩, ⟨0, 0, 4⟩] [⟨0, 2, v + 2⟩] 0 c) (ba_sm (by rfl) (by simp)) 0
  have g0 : backM (BA [⟨0, 0, 4⟩, ⟨0, 0, 4⟩, ⟨0, 0, 4⟩, ⟨0, 0, 4⟩] [⟨0, 2, v + 2⟩] 0 c) 0 = (BE [⟨0, 0, 0⟩, ⟨0, 0, 0⟩, ⟨v + 2, c, 0⟩, ⟨0, 0, 0⟩], 0) := by
    have := ba_step (n := 0) (rows := [⟨0, 0, 4⟩, ⟨0, 0, 4⟩, ⟨0, 0, 4⟩, ⟨0, 0, 4⟩]) (ws := [⟨0, 2, v + 2⟩]) (c := c) (by rfl) (by simp [rowMay, wordMay, hc, r0, r1, r2, r3]; try decide) hw (ws_all (by rfl)) hc (by rfl)
    rw [show (((0 : Nat)) : Int) = 0 from rfl] at this
    rw [this]
    simp [freeW]
  rw [g0] at f0
  simp only [Nat.add_assoc, Nat.reduceAdd, BA, BAs, BE, BEs, BS5, oM, cO, oWs, oSs, oEs, oIs, oRs, oWrs, oS, eM, cM, eWs, eSs, eEs, eIs, eRs, eWrs, List.map_cons, List.map_nil, eS, eI, eR, eWr, eW, eE] at f0
  simp only [M00, BS5, oM, cO, oWs, oSs, oEs, oIs, oRs, oWrs, List.map_cons, List.map_nil, oS, eI, eR, eWr, eW, eE] at hbe
  refine sp_of rfl 6 (by rfl) ?_
  delta c12
  simp (config := { contextual := true, dsimp := false, implicitDefEqProofs := false, maxSteps := 5000000 }) only [haw, hbe, ev, ec, s0, s1, s2, s3, b0, b1, b2, b3, w0, w1, w2, w3, dd, hss, hl, k4, m1, m2, m3, m4, List.replicate, gLs, ↓un_c (c12_1.eq_1), ↓un_c (c12_2.eq_1), ↓un_c (c12_3.eq_1), f0, go_sem, Nat.reduceEqDiff, Nat.reduceAdd, Nat.reduceLeDiff, Nat.reduceMul, Nat.reduceLT, Nat.reduceBEq, Int.reduceLT, Int.reduceLE, Int.reduceToNat, Int.reduceAdd, Int.reduceSub, Int.reduceEq, Int.reduceNeg, ↓reduceIte]
set_option maxHeartbeats 8000000 in
theorem u_all5 (i : Nat) (bits x y v c : Int) (B0 B1 B2 B3 : Int) (hv : inR v 127 = true) (hc : inR c 65535 = true) (ev : andI x 127 = v) (ec : andI y 65535 = c)
    (s0 : ∀ t, opBin lay .shr t (iV bits) (iV 0) = some (iV B0)) (s1 : ∀ t, opBin lay .shr t (iV bits) (iV 1) = some (iV B1)) (s2 : ∀ t, opBin lay .shr t (iV bits) (iV 2) = some (iV B2)) (s3 : ∀ t, opBin lay .shr t (iV bits) (iV 3) = some (iV B3))
    (b0 : decide (andI B0 1 = 1) = true) (b1 : decide (andI B1 1 = 1) = false) (b2 : decide (andI B2 1 = 1) = true) (b3 : decide (andI B3 1 = 1) = false)
    (haw : pureOf (Lv ctx (i + 23)) 31 [] = some (bV true)) (hbe : pureOf (Lv ctx (i + 23)) 33 [] = some (oM M00)) : pureOf (Lv ctx (i + 24)) 12 [iV bits, iV x, iV y] = some (bV true) := by
  have hv' := inR_le.1 hv
  have hc' := inR_le.1 hc
  have w0 : IntKind.wrap .i64 (v + 0) = v := by rw [Int.add_zero]; exact wrap_small (by omega) (by omega)
  have w1 : IntKind.wrap .i64 (v + 1) = v + 1 := wrap_small (by omega) (by omega)
  have w2 : IntKind.wrap .i64 (v + 2) = v + 2 := wrap_small (by omega) (by omega)
  have w3 : IntKind.wrap .i64 (v + 3) = v + 3 := wrap_small (by omega) (by omega)
  have r0 : inR v 255 = true := by rw [inR_le]; omega
  have r1 : inR (v + 1) 255 = true := by rw [inR_le]; omega
  have r2 : inR (v + 2) 255 = true := by rw [inR_le]; omega
  have r3 : inR (v + 3) 255 = true := by rw [inR_le]; omega
  have dd : ∀ n : Int, decide (n = n) = true := fun n => by simp
  have hss : M00.sess.map oS = [oS ⟨3, 0, 3, [⟨2, 0, 0, 0⟩, ⟨1, 0, 0, 0⟩, ⟨3, 0, 0, 0⟩], 0, 0, ⟨0, 0, 0, 0⟩, [], [], 0, 0, 0, 0, 0⟩, oS ⟨5, 1, 1, [⟨2, 0, 0, 1⟩, ⟨3, 0, 1, 0⟩], 0, 0, ⟨0, 0, 0, 0⟩, [], [], 0, 0, 0, 0, 0⟩] := rfl
  have hl : ((M00.sess.length : Nat) : Int) = 2 := rfl
  have k4 : ((4 : Nat) : Int) = 4 := rfl
  have m1 : ((1 : Int) * ((24 : Nat) : Int) ≤ 140737488355328) = True := by simp
  have m2 : ((2 : Int) * ((24 : Nat) : Int) ≤ 140737488355328) = True := by simp
  have m3 : ((3 : Int) * ((24 : Nat) : Int) ≤ 140737488355328) = True := by simp
  have m4 : ((4 : Int) * ((24 : Nat) : Int) ≤ 140737488355328) = True := by simp
  have hw : writesMay [⟨0, 0, v⟩, ⟨0, 2, v + 2⟩] = true := by simp [writesMay, writesGo, write1, place, r0, r1, r2, r3]; try decide
  have f0 := s_back (i + 1) false (BA [⟨0, 0, 4⟩, ⟨0, 0, 4⟩, ⟨0, 0, 4⟩, ⟨0, 0, 4⟩] [⟨0, 0, v⟩, ⟨0, 2, v + 2⟩] 0 c) (ba_sm (by rfl) (by simp)) 0
  have g0 : backM (BA [⟨0, 0, 4⟩, ⟨0, 0, 4⟩, ⟨0, 0, 4⟩, ⟨0, 0, 4⟩] [⟨0, 0, v⟩, ⟨0, 2, v + 2⟩] 0 c) 0 = (BA [⟨v, c, 0⟩, ⟨0, 0, 4⟩, ⟨0, 0, 4⟩, ⟨0, 0, 4⟩] [⟨0, 0, v⟩, ⟨0, 2, v + 2⟩] 1 c, 0) := by
    have := ba_step (n := 0) (rows := [⟨0, 0, 4⟩, ⟨0, 0, 4⟩, ⟨0, 0, 4⟩, ⟨0, 0, 4⟩]) (ws := [⟨0, 0, v⟩, ⟨0, 2, v + 2⟩]) (c := c) (by rfl) (by simp [rowMay, wordMay, hc, r0, r1, r2, r3]; try decide) hw (ws_all (by rfl)) hc (by rfl)
    rw [show (((0 : Nat)) : Int) = 0 from rfl] at this
    rw [this]
    simp [freeW]
  rw [g0] at f0
  have f1 := s_back (i + 1) true (BA [⟨v, c, 0⟩, ⟨0, 0, 4⟩, ⟨0, 0, 4⟩, ⟨0, 0, 4⟩] [⟨0, 0, v⟩, ⟨0, 2, v + 2⟩] 1 c) (ba_sm (by rfl) (by simp)) 0
  have g1 : backM (BA [⟨v, c, 0⟩, ⟨0, 0, 4⟩, ⟨0, 0, 4⟩, ⟨0, 0, 4⟩] [⟨0, 0, v⟩, ⟨0, 2, v + 2⟩] 1 c) 0 = (BE [⟨v, c, 0⟩, ⟨0, 0, 0⟩, ⟨v + 2, c, 0⟩, ⟨0, 0, 0⟩], 0) := by
    have := ba_step (n := 1) (rows := [⟨v, c, 0⟩, ⟨0, 0, 4⟩, ⟨0, 0, 4⟩, ⟨0, 0, 4⟩]) (ws := [⟨0, 0, v⟩, ⟨0, 2, v + 2⟩]) (c := c) (by rfl) (by simp [rowMay, wordMay, hc, r0, r1, r2, r3]; try decide) hw (ws_all (by rfl)) hc (by rfl)
    rw [show (((1 : Nat)) : Int) = 1 from rfl] at this
    rw [this]
    simp [freeW]
  rw [g1] at f1
  simp only [Nat.add_assoc, Nat.reduceAdd, BA, BAs, BE, BEs, BS5, oM, cO, oWs, oSs, oEs, oIs, oRs, oWrs, oS, eM, cM, eWs, eSs, eEs, eIs, eRs, eWrs, List.map_cons, List.map_nil, eS, eI, eR, eWr, eW, eE] at f0 f1
  simp only [M00, BS5, oM, cO, oWs, oSs, oEs, oIs, oRs, oWrs, List.map_cons, List.map_nil, oS, eI, eR, eWr, eW, eE] at hbe
  refine sp_of rfl 6 (by rfl) ?_
  delta c12
  simp (config := { contextual := true, dsimp := false, implicitDefEqProofs := false, maxSteps := 5000000 }) only [haw, hbe, ev, ec, s0, s1, s2, s3, b0, b1, b2, b3, w0, w1, w2, w3, dd, hss, hl, k4, m1, m2, m3, m4, List.replicate, gLs, ↓un_c (c12_1.eq_1), ↓un_c (c12_2.eq_1), ↓un_c (c12_3.eq_1), f0, f1, go_sem, Nat.reduceEqDiff, Nat.reduceAdd, Nat.reduceLeDiff, Nat.reduceMul, Nat.reduceLT, Nat.reduceBEq, Int.reduceLT, Int.reduceLE, Int.reduceToNat, Int.reduceAdd, Int.reduceSub, Int.reduceEq, Int.reduceNeg, ↓reduceIte]
set_option maxHeartbeats 8000000 in
theorem u_all6 (i : Nat) (bits x y v c : Int) (B0 B1 B2 B3 : Int) (hv : inR v 127 = true) (hc : inR c 65535 = true) (ev : andI x 127 = v) (ec : andI y 65535 = c)
    (s0 : ∀ t, opBin lay .shr t (iV bits) (iV 0) = some (iV B0)) (s1 : ∀ t, opBin lay .shr t (iV bits) (iV 1) = some (iV B1)) (s2 : ∀ t, opBin lay .shr t (iV bits) (iV 2) = some (iV B2)) (s3 : ∀ t, opBin lay .shr t (iV bits) (iV 3) = some (iV B3))
    (b0 : decide (andI B0 1 = 1) = false) (b1 : decide (andI B1 1 = 1) = true) (b2 : decide (andI B2 1 = 1) = true) (b3 : decide (andI B3 1 = 1) = false)
    (haw : pureOf (Lv ctx (i + 23)) 31 [] = some (bV true)) (hbe : pureOf (Lv ctx (i + 23)) 33 [] = some (oM M00)) : pureOf (Lv ctx (i + 24)) 12 [iV bits, iV x, iV y] = some (bV true) := by
  have hv' := inR_le.1 hv
  have hc' := inR_le.1 hc
  have w0 : IntKind.wrap .i64 (v + 0) = v := by rw [Int.add_zero]; exact wrap_small (by omega) (by omega)
  have w1 : IntKind.wrap .i64 (v + 1) = v + 1 := wrap_small (by omega) (by omega)
  have w2 : IntKind.wrap .i64 (v + 2) = v + 2 := wrap_small (by omega) (by omega)
  have w3 : IntKind.wrap .i64 (v + 3) = v + 3 := wrap_small (by omega) (by omega)
  have r0 : inR v 255 = true := by rw [inR_le]; omega
  have r1 : inR (v + 1) 255 = true := by rw [inR_le]; omega
  have r2 : inR (v + 2) 255 = true := by rw [inR_le]; omega
  have r3 : inR (v + 3) 255 = true := by rw [inR_le]; omega
  have dd : ∀ n : Int, decide (n = n) = true := fun n => by simp
  have hss : M00.sess.map oS = [oS ⟨3, 0, 3, [⟨2, 0, 0, 0⟩, ⟨1, 0, 0, 0⟩, ⟨3, 0, 0, 0⟩], 0, 0, ⟨0, 0, 0, 0⟩, [], [], 0, 0, 0, 0, 0⟩, oS ⟨5, 1, 1, [⟨2, 0, 0, 1⟩, ⟨3, 0, 1, 0⟩], 0, 0, ⟨0, 0, 0, 0⟩, [], [], 0, 0, 0, 0, 0⟩] := rfl
  have hl : ((M00.sess.length : Nat) : Int) = 2 := rfl
  have k4 : ((4 : Nat) : Int) = 4 := rfl
  have m1 : ((1 : Int) * ((24 : Nat) : Int) ≤ 140737488355328) = True := by simp
  have m2 : ((2 : Int) * ((24 : Nat) : Int) ≤ 140737488355328) = True := by simp
  have m3 : ((3 : Int) * ((24 : Nat) : Int) ≤ 140737488355328) = True := by simp
  have m4 : ((4 : Int) * ((24 : Nat) : Int) ≤ 140737488355328) = True := by simp
  have hw : writesMay [⟨0, 1, v + 1⟩, ⟨0, 2, v + 2⟩] = true := by simp [writesMay, writesGo, write1, place, r0, r1, r2, r3]; try decide
  have f0 := s_back (i + 1) false (BA [⟨0, 0, 4⟩, ⟨0, 0, 4⟩, ⟨0, 0, 4⟩, ⟨0, 0, 4⟩] [⟨0, 1, v + 1⟩, ⟨0, 2, v + 2⟩] 0 c) (ba_sm (by rfl) (by simp)) 0
  have g0 : backM (BA [⟨0, 0, 4⟩, ⟨0, 0, 4⟩, ⟨0, 0, 4⟩, ⟨0, 0, 4⟩] [⟨0, 1, v + 1⟩, ⟨0, 2, v + 2⟩] 0 c) 0 = (BA [⟨0, 0, 4⟩, ⟨v + 1, c, 0⟩, ⟨0, 0, 4⟩, ⟨0, 0, 4⟩] [⟨0, 1, v + 1⟩, ⟨0, 2, v + 2⟩] 1 c, 0) := by
    have := ba_step (n := 0) (rows := [⟨0, 0, 4⟩, ⟨0, 0, 4⟩, ⟨0, 0, 4⟩, ⟨0, 0, 4⟩]) (ws := [⟨0, 1, v + 1⟩, ⟨0, 2, v + 2⟩]) (c := c) (by rfl) (by simp [rowMay, wordMay, hc, r0, r1, r2, r3]; try decide) hw (ws_all (by rfl)) hc (by rfl)
    rw [show (((0 : Nat)) : Int) = 0 from rfl] at this
    rw [this]
    simp [freeW]
  rw [g0] at f0
  have f1 := s_back (i + 1) true (BA [⟨0, 0, 4⟩, ⟨v + 1, c, 0⟩, ⟨0, 0, 4⟩, ⟨0, 0, 4⟩] [⟨0, 1, v + 1⟩, ⟨0, 2, v + 2⟩] 1 c) (ba_sm (by rfl) (by simp)) 0
  have g1 : backM (BA [⟨0, 0, 4⟩, ⟨v + 1, c, 0⟩, ⟨0, 0, 4⟩, ⟨0, 0, 4⟩] [⟨0, 1, v + 1⟩, ⟨0, 2, v + 2⟩] 1 c) 0 = (BE [⟨0, 0, 0⟩, ⟨v + 1, c, 0⟩, ⟨v + 2, c, 0⟩, ⟨0, 0, 0⟩], 0) := by
    have := ba_step (n := 1) (rows := [⟨0, 0, 4⟩, ⟨v + 1, c, 0⟩, ⟨0, 0, 4⟩, ⟨0, 0, 4⟩]) (ws := [⟨0, 1, v + 1⟩, ⟨0, 2, v + 2⟩]) (c := c) (by rfl) (by simp [rowMay, wordMay, hc, r0, r1, r2, r3]; try decide) hw (ws_all (by rfl)) hc (by rfl)
    rw [show (((1 : Nat)) : Int) = 1 from rfl] at this
    rw [this]
    simp [freeW]
  rw [g1] at f1
  simp only [Nat.add_assoc, Nat.reduceAdd, BA, BAs, BE, BEs, BS5, oM, cO, oWs, oSs, oEs, oIs, oRs, oWrs, oS, eM, cM, eWs, eSs, eEs, eIs, eRs, eWrs, List.map_cons, List.map_nil, eS, eI, eR, eWr, eW, eE] at f0 f1
  simp only [M00, BS5, oM, cO, oWs, oSs, oEs, oIs, oRs, oWrs, List.map_cons, List.map_nil, oS, eI, eR, eWr, eW, eE] at hbe
  refine sp_of rfl 6 (by rfl) ?_
  delta c12
  simp (config := { contextual := true, dsimp := false, implicitDefEqProofs := false, maxSteps := 5000000 }) only [haw, hbe, ev, ec, s0, s1, s2, s3, b0, b1, b2, b3, w0, w1, w2, w3, dd, hss, hl, k4, m1, m2, m3, m4, List.replicate, gLs, ↓un_c (c12_1.eq_1), ↓un_c (c12_2.eq_1), ↓un_c (c12_3.eq_1), f0, f1, go_sem, Nat.reduceEqDiff, Nat.reduceAdd, Nat.reduceLeDiff, Nat.reduceMul, Nat.reduceLT, Nat.reduceBEq, Int.reduceLT, Int.reduceLE, Int.reduceToNat, Int.reduceAdd, Int.reduceSub, Int.reduceEq, Int.reduceNeg, ↓reduceIte]
set_option maxHeartbeats 8000000 in
theorem u_all7 (i : Nat) (bits x y v c : Int) (B0 B1 B2 B3 : Int) (hv : inR v 127 = true) (hc : inR c 65535 = true) (ev : andI x 127 = v) (ec : andI y 65535 = c)
    (s0 : ∀ t, opBin lay .shr t (iV bits) (iV 0) = some (iV B0)) (s1 : ∀ t, opBin lay .shr t (iV bits) (iV 1) = some (iV B1)) (s2 : ∀ t, opBin lay .shr t (iV bits) (iV 2) = some (iV B2)) (s3 : ∀ t, opBin lay .shr t (iV bits) (iV 3) = some (iV B3))
    (b0 : decide (andI B0 1 = 1) = true) (b1 : decide (andI B1 1 = 1) = true) (b2 : decide (andI B2 1 = 1) = true) (b3 : decide (andI B3 1 = 1) = false)
    (haw : pureOf (Lv ctx (i + 23)) 31 [] = some (bV true)) (hbe : pureOf (Lv ctx (i + 23)) 33 [] = some (oM M00)) : pureOf (Lv ctx (i + 24)) 12 [iV bits, iV x, iV y] = some (bV true) := by
  have hv' := inR_le.1 hv
  have hc' := inR_le.1 hc
  have w0 : IntKind.wrap .i64 (v + 0) = v := by rw [Int.add_zero]; exact wrap_small (by omega) (by omega)
  have w1 : IntKind.wrap .i64 (v + 1) = v + 1 := wrap_small (by omega) (by omega)
  have w2 : IntKind.wrap .i64 (v + 2) = v + 2 := wrap_small (by omega) (by omega)
  have w3 : IntKind.wrap .i64 (v + 3) = v + 3 := wrap_small (by omega) (by omega)
  have r0 : inR v 255 = true := by rw [inR_le]; omega
  have r1 : inR (v + 1) 255 = true := by rw [inR_le]; omega
  have r2 : inR (v + 2) 255 = true := by rw [inR_le]; omega
  have r3 : inR (v + 3) 255 = true := by rw [inR_le]; omega
  have dd : ∀ n : Int, decide (n = n) = true := fun n => by simp
  have hss : M00.sess.map oS = [oS ⟨3, 0, 3, [⟨2, 0, 0, 0⟩, ⟨1, 0, 0, 0⟩, ⟨3, 0, 0, 0⟩], 0, 0, ⟨0, 0, 0, 0⟩, [], [], 0, 0, 0, 0, 0⟩, oS ⟨5, 1, 1, [⟨2, 0, 0, 1⟩, ⟨3, 0, 1, 0⟩], 0, 0, ⟨0, 0, 0, 0⟩, [], [], 0, 0, 0, 0, 0⟩] := rfl
  have hl : ((M00.sess.length : Nat) : Int) = 2 := rfl
  have k4 : ((4 : Nat) : Int) = 4 := rfl
  have m1 : ((1 : Int) * ((24 : Nat) : Int) ≤ 140737488355328) = True := by simp
  have m2 : ((2 : Int) * ((24 : Nat) : Int) ≤ 140737488355328) = True := by simp
  have m3 : ((3 : Int) * ((24 : Nat) : Int) ≤ 140737488355328) = True := by simp
  have m4 : ((4 : Int) * ((24 : Nat) : Int) ≤ 140737488355328) = True := by simp
  have hw : writesMay [⟨0, 0, v⟩, ⟨0, 1, v + 1⟩, ⟨0, 2, v + 2⟩] = true := by simp [writesMay, writesGo, write1, place, r0, r1, r2, r3]; try decide
  have f0 := s_back (i + 1) false (BA [⟨0, 0, 4⟩, ⟨0, 0, 4⟩, ⟨0, 0, 4⟩, ⟨0, 0, 4⟩] [⟨0, 0, v⟩, ⟨0, 1, v + 1⟩, ⟨0, 2, v + 2⟩] 0 c) (ba_sm (by rfl) (by simp)) 0
  have g0 : backM (BA [⟨0, 0, 4⟩, ⟨0, 0, 4⟩, ⟨0, 0, 4⟩, ⟨0, 0, 4⟩] [⟨0, 0, v⟩, ⟨0, 1, v + 1⟩, ⟨0, 2, v + 2⟩] 0 c) 0 = (BA [⟨v, c, 0⟩, ⟨0, 0, 4⟩, ⟨0, 0, 4⟩, ⟨0, 0, 4⟩] [⟨0, 0, v⟩, ⟨0, 1, v + 1⟩, ⟨0, 2, v + 2⟩] 1 c, 0) := by
    have := ba_step (n := 0) (rows := [⟨0, 0, 4⟩, ⟨0, 0, 4⟩, ⟨0, 0, 4⟩, ⟨0, 0, 4⟩]) (ws := [⟨0, 0, v⟩, ⟨0, 1, v + 1⟩, ⟨0, 2, v + 2⟩]) (c := c) (by rfl) (by simp [rowMay, wordMay, hc, r0, r1, r2, r3]; try decide) hw (ws_all (by rfl)) hc (by rfl)
    rw [show (((0 : Nat)) : Int) = 0 from rfl] at this
    rw [this]
    simp [freeW]
  rw [g0] at f0
  have f1 := s_back (i + 1) true (BA [⟨v, c, 0⟩, ⟨0, 0, 4⟩, ⟨0, 0, 4⟩, ⟨0, 0, 4⟩] [⟨0, 0, v⟩, ⟨0, 1, v + 1⟩, ⟨0, 2, v + 2⟩] 1 c) (ba_sm (by rfl) (by simp)) 0
  have g1 : backM (BA [⟨v, c, 0⟩, ⟨0, 0, 4⟩, ⟨0, 0, 4⟩, ⟨0, 0, 4⟩] [⟨0, 0, v⟩, ⟨0, 1, v + 1⟩, ⟨0, 2, v + 2⟩] 1 c) 0 = (BA [⟨v, c, 0⟩, ⟨v + 1, c, 0⟩, ⟨0, 0, 4⟩, ⟨0, 0, 4⟩] [⟨0, 0, v⟩, ⟨0, 1, v + 1⟩, ⟨0, 2, v + 2⟩] 2 c, 0) := by
    have := ba_step (n := 1) (rows := [⟨v, c, 0⟩, ⟨0, 0, 4⟩, ⟨0, 0, 4⟩, ⟨0, 0, 4⟩]) (ws := [⟨0, 0, v⟩, ⟨0, 1, v + 1⟩, ⟨0, 2, v + 2⟩]) (c := c) (by rfl) (by simp [rowMay, wordMay, hc, r0, r1, r2, r3]; try decide) hw (ws_all (by rfl)) hc (by rfl)
    rw [show (((1 : Nat)) : Int) = 1 from rfl] at this
    rw [this]
    simp [freeW]
  rw [g1] at f1
  have f2 := s_back (i + 1) true (BA [⟨v, c, 0⟩, ⟨v + 1, c, 0⟩, ⟨0, 0, 4⟩, ⟨0, 0, 4⟩] [⟨0, 0, v⟩, ⟨0, 1, v + 1⟩, ⟨0, 2, v + 2⟩] 2 c) (ba_sm (by rfl) (by simp)) 0
  have g2 : backM (BA [⟨v, c, 0⟩, ⟨v + 1, c, 0⟩, ⟨0, 0, 4⟩, ⟨0, 0, 4⟩] [⟨0, 0, v⟩, ⟨0, 1, v + 1⟩, ⟨0, 2, v + 2⟩] 2 c) 0 = (BE [⟨v, c, 0⟩, ⟨v + 1, c, 0⟩, ⟨v + 2, c, 0⟩, ⟨0, 0, 0⟩], 0) := by
    have := ba_step (n := 2) (rows := [⟨v, c, 0⟩, ⟨v + 1, c, 0⟩, ⟨0, 0, 4⟩, ⟨0, 0, 4⟩]) (ws := [⟨0, 0, v⟩, ⟨0, 1, v + 1⟩, ⟨0, 2, v + 2⟩]) (c := c) (by rfl) (by simp [rowMay, wordMay, hc, r0, r1, r2, r3]; try decide) hw (ws_all (by rfl)) hc (by rfl)
    rw [show (((2 : Nat)) : Int) = 2 from rfl] at this
    rw [this]
    simp [freeW]
  rw [g2] at f2
  simp only [Nat.add_assoc, Nat.reduceAdd, BA, BAs, BE, BEs, BS5, oM, cO, oWs, oSs, oEs, oIs, oRs, oWrs, oS, eM, cM, eWs, eSs, eEs, eIs, eRs, eWrs, List.map_cons, List.map_nil, eS, eI, eR, eWr, eW, eE] at f0 f1 f2
  simp only [M00, BS5, oM, cO, oWs, oSs, oEs, oIs, oRs, oWrs, List.map_cons, List.map_nil, oS, eI, eR, eWr, eW, eE] at hbe
  refine sp_of rfl 6 (by rfl) ?_
  delta c12
  simp (config := { contextual := true, dsimp := false, implicitDefEqProofs := false, maxSteps := 5000000 }) only [haw, hbe, ev, ec, s0, s1, s2, s3, b0, b1, b2, b3, w0, w1, w2, w3, dd, hss, hl, k4, m1, m2, m3, m4, List.replicate, gLs, ↓un_c (c12_1.eq_1), ↓un_c (c12_2.eq_1), ↓un_c (c12_3.eq_1), f0, f1, f2, go_sem, Nat.reduceEqDiff, Nat.reduceAdd, Nat.reduceLeDiff, Nat.reduceMul, Nat.reduceLT, Nat.reduceBEq, Int.reduceLT, Int.reduceLE, Int.reduceToNat, Int.reduceAdd, Int.reduceSub, Int.reduceEq, Int.reduceNeg, ↓reduceIte]
set_option maxHeartbeats 8000000 in
theorem u_all8 (i : Nat) (bits x y v c : Int) (B0 B1 B2 B3 : Int) (hv : inR v 127 = true) (hc : inR c 65535 = true) (ev : andI x 127 = v) (ec : andI y 65535 = c)
    (s0 : ∀ t, opBin lay .shr t (iV bits) (iV 0) = some (iV B0)) (s1 : ∀ t, opBin lay .shr t (iV bits) (iV 1) = some (iV B1)) (s2 : ∀ t, opBin lay .shr t (iV bits) (iV 2) = some (iV B2)) (s3 : ∀ t, opBin lay .shr t (iV bits) (iV 3) = some (iV B3))
    (b0 : decide (andI B0 1 = 1) = false) (b1 : decide (andI B1 1 = 1) = false) (b2 : decide (andI B2 1 = 1) = false) (b3 : decide (andI B3 1 = 1) = true)
    (haw : pureOf (Lv ctx (i + 23)) 31 [] = some (bV true)) (hbe : pureOf (Lv ctx (i + 23)) 33 [] = some (oM M00)) : pureOf (Lv ctx (i + 24)) 12 [iV bits, iV x, iV y] = some (bV true) := by
  have hv' := inR_le.1 hv
  have hc' := inR_le.1 hc
  have w0 : IntKind.wrap .i64 (v + 0) = v := by rw [Int.add_zero]; exact wrap_small (by omega) (by omega)
  have w1 : IntKind.wrap .i64 (v + 1) = v + 1 := wrap_small (by omega) (by omega)
  have w2 : IntKind.wrap .i64 (v + 2) = v + 2 := wrap_small (by omega) (by omega)
  have w3 : IntKind.wrap .i64 (v + 3) = v + 3 := wrap_small (by omega) (by omega)
  have r0 : inR v 255 = true := by rw [inR_le]; omega
  have r1 : inR (v + 1) 255 = true := by rw [inR_le]; omega
  have r2 : inR (v + 2) 255 = true := by rw [inR_le]; omega
  have r3 : inR (v + 3) 255 = true := by rw [inR_le]; omega
  have dd : ∀ n : Int, decide (n = n) = true := fun n => by simp
  have hss : M00.sess.map oS = [oS ⟨3, 0, 3, [⟨2, 0, 0, 0⟩, ⟨1, 0, 0, 0⟩, ⟨3, 0, 0, 0⟩], 0, 0, ⟨0, 0, 0, 0⟩, [], [], 0, 0, 0, 0, 0⟩, oS ⟨5, 1, 1, [⟨2, 0, 0, 1⟩, ⟨3, 0, 1, 0⟩], 0, 0, ⟨0, 0, 0, 0⟩, [], [], 0, 0, 0, 0, 0⟩] := rfl
  have hl : ((M00.sess.length : Nat) : Int) = 2 := rfl
  have k4 : ((4 : Nat) : Int) = 4 := rfl
  have m1 : ((1 : Int) * ((24 : Nat) : Int) ≤ 140737488355328) = True := by simp
  have m2 : ((2 : Int) * ((24 : Nat) : Int) ≤ 140737488355328) = True := by simp
  have m3 : ((3 : Int) * ((24 : Nat) : Int) ≤ 140737488355328) = True := by simp
  have m4 : ((4 : Int) * ((24 : Nat) : Int) ≤ 140737488355328) = True := by simp
  have hw : writesMay [⟨0, 3, v + 3⟩] = true := by simp [writesMay, writesGo, write1, place, r0, r1, r2, r3]; try decide
  have f0 := s_back (i + 1) false (BA [⟨0, 0, 4⟩, ⟨0, 0, 4⟩, ⟨0, 0, 4⟩, ⟨0, 0, 4⟩] [⟨0, 3, v + 3⟩] 0 c) (ba_sm (by rfl) (by simp)) 0
  have g0 : backM (BA [⟨0, 0, 4⟩, ⟨0, 0, 4⟩, ⟨0, 0, 4⟩, ⟨0, 0, 4⟩] [⟨0, 3, v + 3⟩] 0 c) 0 = (BE [⟨0, 0, 0⟩, ⟨0, 0, 0⟩, ⟨0, 0, 0⟩, ⟨v + 3, c, 0⟩], 0) := by
    have := ba_step (n := 0) (rows := [⟨0, 0, 4⟩, ⟨0, 0, 4⟩, ⟨0, 0, 4⟩, ⟨0, 0, 4⟩]) (ws := [⟨0, 3, v + 3⟩]) (c := c) (by rfl) (by simp [rowMay, wordMay, hc, r0, r1, r2, r3]; try decide) hw (ws_all (by rfl)) hc (by rfl)
    rw [show (((0 : Nat)) : Int) = 0 from rfl] at this
    rw [this]
    simp [freeW]
  rw [g0] at f0
  simp only [Nat.add_assoc, Nat.reduceAdd, BA, BAs, BE, BEs, BS5, oM, cO, oWs, oSs, oEs, oIs, oRs, oWrs, oS, eM, cM, eWs, eSs, eEs, eIs, eRs, eWrs, List.map_cons, List.map_nil, eS, eI, eR, eWr, eW, eE] at f0
  simp only [M00, BS5, oM, cO, oWs, oSs, oEs, oIs, oRs, oWrs, List.map_cons, List.map_nil, oS, eI, eR, eWr, eW, eE] at hbe
  refine sp_of rfl 6 (by rfl) ?_
  delta c12
  simp (config := { contextual := true, dsimp := false, implicitDefEqProofs := false, maxSteps := 5000000 }) only [haw, hbe, ev, ec, s0, s1, s2, s3, b0, b1, b2, b3, w0, w1, w2, w3, dd, hss, hl, k4, m1, m2, m3, m4, List.replicate, gLs, ↓un_c (c12_1.eq_1), ↓un_c (c12_2.eq_1), ↓un_c (c12_3.eq_1), f0, go_sem, Nat.reduceEqDiff, Nat.reduceAdd, Nat.reduceLeDiff, Nat.reduceMul, Nat.reduceLT, Nat.reduceBEq, Int.reduceLT, Int.reduceLE, Int.reduceToNat, Int.reduceAdd, Int.reduceSub, Int.reduceEq, Int.reduceNeg, ↓reduceIte]
set_option maxHeartbeats 8000000 in
theorem u_all9 (i : Nat) (bits x y v c : Int) (B0 B1 B2 B3 : Int) (hv : inR v 127 = true) (hc : inR c 65535 = true) (ev : andI x 127 = v) (ec : andI y 65535 = c)
    (s0 : ∀ t, opBin lay .shr t (iV bits) (iV 0) = some (iV B0)) (s1 : ∀ t, opBin lay .shr t (iV bits) (iV 1) = some (iV B1)) (s2 : ∀ t, opBin lay .shr t (iV bits) (iV 2) = some (iV B2)) (s3 : ∀ t, opBin lay .shr t (iV bits) (iV 3) = some (iV B3))
    (b0 : decide (andI B0 1 = 1) = true) (b1 : decide (andI B1 1 = 1) = false) (b2 : decide (andI B2 1 = 1) = false) (b3 : decide (andI B3 1 = 1) = true)
    (haw : pureOf (Lv ctx (i + 23)) 31 [] = some (bV true)) (hbe : pureOf (Lv ctx (i + 23)) 33 [] = some (oM M00)) : pureOf (Lv ctx (i + 24)) 12 [iV bits, iV x, iV y] = some (bV true) := by
  have hv' := inR_le.1 hv
  have hc' := inR_le.1 hc
  have w0 : IntKind.wrap .i64 (v + 0) = v := by rw [Int.add_zero]; exact wrap_small (by omega) (by omega)
  have w1 : IntKind.wrap .i64 (v + 1) = v + 1 := wrap_small (by omega) (by omega)
  have w2 : IntKind.wrap .i64 (v + 2) = v + 2 := wrap_small (by omega) (by omega)
  have w3 : IntKind.wrap .i64 (v + 3) = v + 3 := wrap_small (by omega) (by omega)
  have r0 : inR v 255 = true := by rw [inR_le]; omega
  have r1 : inR (v + 1) 255 = true := by rw [inR_le]; omega
  have r2 : inR (v + 2) 255 = true := by rw [inR_le]; omega
  have r3 : inR (v + 3) 255 = true := by rw [inR_le]; omega
  have dd : ∀ n : Int, decide (n = n) = true := fun n => by simp
  have hss : M00.sess.map oS = [oS ⟨3, 0, 3, [⟨2, 0, 0, 0⟩, ⟨1, 0, 0, 0⟩, ⟨3, 0, 0, 0⟩], 0, 0, ⟨0, 0, 0, 0⟩, [], [], 0, 0, 0, 0, 0⟩, oS ⟨5, 1, 1, [⟨2, 0, 0, 1⟩, ⟨3, 0, 1, 0⟩], 0, 0, ⟨0, 0, 0, 0⟩, [], [], 0, 0, 0, 0, 0⟩] := rfl
  have hl : ((M00.sess.length : Nat) : Int) = 2 := rfl
  have k4 : ((4 : Nat) : Int) = 4 := rfl
  have m1 : ((1 : Int) * ((24 : Nat) : Int) ≤ 140737488355328) = True := by simp
  have m2 : ((2 : Int) * ((24 : Nat) : Int) ≤ 140737488355328) = True := by simp
  have m3 : ((3 : Int) * ((24 : Nat) : Int) ≤ 140737488355328) = True := by simp
  have m4 : ((4 : Int) * ((24 : Nat) : Int) ≤ 140737488355328) = True := by simp
  have hw : writesMay [⟨0, 0, v⟩, ⟨0, 3, v + 3⟩] = true := by simp [writesMay, writesGo, write1, place, r0, r1, r2, r3]; try decide
  have f0 := s_back (i + 1) false (BA [⟨0, 0, 4⟩, ⟨0, 0, 4⟩, ⟨0, 0, 4⟩, ⟨0, 0, 4⟩] [⟨0, 0, v⟩, ⟨0, 3, v + 3⟩] 0 c) (ba_sm (by rfl) (by simp)) 0
  have g0 : backM (BA [⟨0, 0, 4⟩, ⟨0, 0, 4⟩, ⟨0, 0, 4⟩, ⟨0, 0, 4⟩] [⟨0, 0, v⟩, ⟨0, 3, v + 3⟩] 0 c) 0 = (BA [⟨v, c, 0⟩, ⟨0, 0, 4⟩, ⟨0, 0, 4⟩, ⟨0, 0, 4⟩] [⟨0, 0, v⟩, ⟨0, 3, v + 3⟩] 1 c, 0) := by
    have := ba_step (n := 0) (rows := [⟨0, 0, 4⟩, ⟨0, 0, 4⟩, ⟨0, 0, 4⟩, ⟨0, 0, 4⟩]) (ws := [⟨0, 0, v⟩, ⟨0, 3, v + 3⟩]) (c := c) (by rfl) (by simp [rowMay, wordMay, hc, r0, r1, r2, r3]; try decide) hw (ws_all (by rfl)) hc (by rfl)
    rw [show (((0 : Nat)) : Int) = 0 from rfl] at this
    rw [this]
    simp [freeW]
  rw [g0] at f0
  have f1 := s_back (i + 1) true (BA [⟨v, c, 0⟩, ⟨0, 0, 4⟩, ⟨0, 0, 4⟩, ⟨0, 0, 4⟩] [⟨0, 0, v⟩, ⟨0, 3, v + 3⟩] 1 c) (ba_sm (by rfl) (by simp)) 0
  have g1 : backM (BA [⟨v, c, 0⟩, ⟨0, 0, 4⟩, ⟨0, 0, 4⟩, ⟨0, 0, 4⟩] [⟨0, 0, v⟩, ⟨0, 3, v + 3⟩] 1 c) 0 = (BE [⟨v, c, 0⟩, ⟨0, 0, 0⟩, ⟨0, 0, 0⟩, ⟨v + 3, c, 0⟩], 0) := by
    have := ba_step (n := 1) (rows := [⟨v, c, 0⟩, ⟨0, 0, 4⟩, ⟨0, 0, 4⟩, ⟨0, 0, 4⟩]) (ws := [⟨0, 0, v⟩, ⟨0, 3, v + 3⟩]) (c := c) (by rfl) (by simp [rowMay, wordMay, hc, r0, r1, r2, r3]; try decide) hw (ws_all (by rfl)) hc (by rfl)
    rw [show (((1 : Nat)) : Int) = 1 from rfl] at this
    rw [this]
    simp [freeW]
  rw [g1] at f1
  simp only [Nat.add_assoc, Nat.reduceAdd, BA, BAs, BE, BEs, BS5, oM, cO, oWs, oSs, oEs, oIs, oRs, oWrs, oS, eM, cM, eWs, eSs, eEs, eIs, eRs, eWrs, List.map_cons, List.map_nil, eS, eI, eR, eWr, eW, eE] at f0 f1
  simp only [M00, BS5, oM, cO, oWs, oSs, oEs, oIs, oRs, oWrs, List.map_cons, List.map_nil, oS, eI, eR, eWr, eW, eE] at hbe
  refine sp_of rfl 6 (by rfl) ?_
  delta c12
  simp (config := { contextual := true, dsimp := false, implicitDefEqProofs := false, maxSteps := 5000000 }) only [haw, hbe, ev, ec, s0, s1, s2, s3, b0, b1, b2, b3, w0, w1, w2, w3, dd, hss, hl, k4, m1, m2, m3, m4, List.replicate, gLs, ↓un_c (c12_1.eq_1), ↓un_c (c12_2.eq_1), ↓un_c (c12_3.eq_1), f0, f1, go_sem, Nat.reduceEqDiff, Nat.reduceAdd, Nat.reduceLeDiff, Nat.reduceMul, Nat.reduceLT, Nat.reduceBEq, Int.reduceLT, Int.reduceLE, Int.reduceToNat, Int.reduceAdd, Int.reduceSub, Int.reduceEq, Int.reduceNeg, ↓reduceIte]
set_option maxHeartbeats 8000000 in
theorem u_all10 (i : Nat) (bits x y v c : Int) (B0 B1 B2 B3 : Int) (hv : inR v 127 = true) (hc : inR c 65535 = true) (ev : andI x 127 = v) (ec : andI y 65535 = c)
    (s0 : ∀ t, opBin lay .shr t (iV bits) (iV 0) = some (iV B0)) (s1 : ∀ t, opBin lay .shr t (iV bits) (iV 1) = some (iV B1)) (s2 : ∀ t, opBin lay .shr t (iV bits) (iV 2) = some (iV B2)) (s3 : ∀ t, opBin lay .shr t (iV bits) (iV 3) = some (iV B3))
    (b0 : decide (andI B0 1 = 1) = false) (b1 : decide (andI B1 1 = 1) = true) (b2 : decide (andI B2 1 = 1) = false) (b3 : decide (andI B3 1 = 1) = true)
    (haw : pureOf (Lv ctx (i + 23)) 31 [] = some (bV true)) (hbe : pureOf (Lv ctx (i + 23)) 33 [] = some (oM M00)) : pureOf (Lv ctx (i + 24)) 12 [iV bits, iV x, iV y] = some (bV true) := by
  have hv' := inR_le.1 hv
  have hc' := inR_le.1 hc
  have w0 : IntKind.wrap .i64 (v + 0) = v := by rw [Int.add_zero]; exact wrap_small (by omega) (by omega)
  have w1 : IntKind.wrap .i64 (v + 1) = v + 1 := wrap_small (by omega) (by omega)
  have w2 : IntKind.wrap .i64 (v + 2) = v + 2 := wrap_small (by omega) (by omega)
  have w3 : IntKind.wrap .i64 (v + 3) = v + 3 := wrap_small (by omega) (by omega)
  have r0 : inR v 255 = true := by rw [inR_le]; omega
  have r1 : inR (v + 1) 255 = true := by rw [inR_le]; omega
  have r2 : inR (v + 2) 255 = true := by rw [inR_le]; omega
  have r3 : inR (v + 3) 255 = true := by rw [inR_le]; omega
  have dd : ∀ n : Int, decide (n = n) = true := fun n => by simp
  have hss : M00.sess.map oS = [oS ⟨3, 0, 3, [⟨2, 0, 0, 0⟩, ⟨1, 0, 0, 0⟩, ⟨3, 0, 0, 0⟩], 0, 0, ⟨0, 0, 0, 0⟩, [], [], 0, 0, 0, 0, 0⟩, oS ⟨5, 1, 1, [⟨2, 0, 0, 1⟩, ⟨3, 0, 1, 0⟩], 0, 0, ⟨0, 0, 0, 0⟩, [], [], 0, 0, 0, 0, 0⟩] := rfl
  have hl : ((M00.sess.length : Nat) : Int) = 2 := rfl
  have k4 : ((4 : Nat) : Int) = 4 := rfl
  have m1 : ((1 : Int) * ((24 : Nat) : Int) ≤ 140737488355328) = True := by simp
  have m2 : ((2 : Int) * ((24 : Nat) : Int) ≤ 140737488355328) = True := by simp
  have m3 : ((3 : Int) * ((24 : Nat) : Int) ≤ 140737488355328) = True := by simp
  have m4 : ((4 : Int) * ((24 : Nat) : Int) ≤ 140737488355328) = True := by simp
  have hw : writesMay [⟨0, 1, v + 1⟩, ⟨0, 3, v + 3⟩] = true := by simp [writesMay, writesGo, write1, place, r0, r1, r2, r3]; try decide
  have f0 := s_back (i + 1) false (BA [⟨0, 0, 4⟩, ⟨0, 0, 4⟩, ⟨0, 0, 4⟩, ⟨0, 0, 4⟩] [⟨0, 1, v + 1⟩, ⟨0, 3, v + 3⟩] 0 c) (ba_sm (by rfl) (by simp)) 0
  have g0 : backM (BA [⟨0, 0, 4⟩, ⟨0, 0, 4⟩, ⟨0, 0, 4⟩, ⟨0, 0, 4⟩] [⟨0, 1, v + 1⟩, ⟨0, 3, v + 3⟩] 0 c) 0 = (BA [⟨0, 0, 4⟩, ⟨v + 1, c, 0⟩, ⟨0, 0, 4⟩, ⟨0, 0, 4⟩] [⟨0, 1, v + 1⟩, ⟨0, 3, v + 3⟩] 1 c, 0) := by
    have := ba_step (n := 0) (rows := [⟨0, 0, 4⟩, ⟨0, 0, 4⟩, ⟨0, 0, 4⟩, ⟨0, 0, 4⟩]) (ws := [⟨0, 1, v + 1⟩, ⟨0, 3, v + 3⟩]) (c := c) (by rfl) (by simp [rowMay, wordMay, hc, r0, r1, r2, r3]; try decide) hw (ws_all (by rfl)) hc (by rfl)
    rw [show (((0 : Nat)) : Int) = 0 from rfl] at this
    rw [this]
    simp [freeW]
  rw [g0] at f0
  have f1 := s_back (i + 1) true (BA [⟨0, 0, 4⟩, ⟨v + 1, c, 0⟩, ⟨0, 0, 4⟩, ⟨0, 0, 4⟩] [⟨0, 1, v + 1⟩, ⟨0, 3, v + 3⟩] 1 c) (ba_sm (by rfl) (by simp)) 0
  have g1 : backM (BA [⟨0, 0, 4⟩, ⟨v + 1, c, 0⟩, ⟨0, 0, 4⟩, ⟨0, 0, 4⟩] [⟨0, 1, v + 1⟩, ⟨0, 3, v + 3⟩] 1 c) 0 = (BE [⟨0, 0, 0⟩, ⟨v + 1, c, 0⟩, ⟨0, 0, 0⟩, ⟨v + 3, c, 0⟩], 0) := by
    have := ba_step (n := 1) (rows := [⟨0, 0, 4⟩, ⟨v + 1, c, 0⟩, ⟨0, 0, 4⟩, ⟨0, 0, 4⟩]) (ws := [⟨0, 1, v + 1⟩, ⟨0, 3, v + 3⟩]) (c := c) (by rfl) (by simp [rowMay, wordMay, hc, r0, r1, r2, r3]; try decide) hw (ws_all (by rfl)) hc (by rfl)
    rw [show (((1 : Nat)) : Int) = 1 from rfl] at this
    rw [this]
    simp [freeW]
  rw [g1] at f1
  simp only [Nat.add_assoc, Nat.reduceAdd, BA, BAs, BE, BEs, BS5, oM, cO, oWs, oSs, oEs, oIs, oRs, oWrs, oS, eM, cM, eWs, eSs, eEs, eIs, eRs, eWrs, List.map_cons, List.map_nil, eS, eI, eR, eWr, eW, eE] at f0 f1
  simp only [M00, BS5, oM, cO, oWs, oSs, oEs, oIs, oRs, oWrs, List.map_cons, List.map_nil, oS, eI, eR, eWr, eW, eE] at hbe
  refine sp_of rfl 6 (by rfl) ?_
  delta c12
  simp (config := { contextual := true, dsimp := false, implicitDefEqProofs := false, maxSteps := 5000000 }) only [haw, hbe, ev, ec, s0, s1, s2, s3, b0, b1, b2, b3, w0, w1, w2, w3, dd, hss, hl, k4, m1, m2, m3, m4, List.replicate, gLs, ↓un_c (c12_1.eq_1), ↓un_c (c12_2.eq_1), ↓un_c (c12_3.eq_1), f0, f1, go_sem, Nat.reduceEqDiff, Nat.reduceAdd, Nat.reduceLeDiff, Nat.reduceMul, Nat.reduceLT, Nat.reduceBEq, Int.reduceLT, Int.reduceLE, Int.reduceToNat, Int.reduceAdd, Int.reduceSub, Int.reduceEq, Int.reduceNeg, ↓reduceIte]
set_option maxHeartbeats 8000000 in
theorem u_all11 (i : Nat) (bits x y v c : Int) (B0 B1 B2 B3 : Int) (hv : inR v 127 = true) (hc : inR c 65535 = true) (ev : andI x 127 = v) (ec : andI y 65535 = c)
    (s0 : ∀ t, opBin lay .shr t (iV bits) (iV 0) = some (iV B0)) (s1 : ∀ t, opBin lay .shr t (iV bits) (iV 1) = some (iV B1)) (s2 : ∀ t, opBin lay .shr t (iV bits) (iV 2) = some (iV B2)) (s3 : ∀ t, opBin lay .shr t (iV bits) (iV 3) = some (iV B3))
    (b0 : decide (andI B0 1 = 1) = true) (b1 : decide (andI B1 1 = 1) = true) (b2 : decide (andI B2 1 = 1) = false) (b3 : decide (andI B3 1 = 1) = true)
    (haw : pureOf (Lv ctx (i + 23)) 31 [] = some (bV true)) (hbe : pureOf (Lv ctx (i + 23)) 33 [] = some (oM M00)) : pureOf (Lv ctx (i + 24)) 12 [iV bits, iV x, iV y] = some (bV true) := by
  have hv' := inR_le.1 hv
  have hc' := inR_le.1 hc
  have w0 : IntKind.wrap .i64 (v + 0) = v := by rw [Int.add_zero]; exact wrap_small (by omega) (by omega)
  have w1 : IntKind.wrap .i64 (v + 1) = v + 1 := wrap_small (by omega) (by omega)
  have w2 : IntKind.wrap .i64 (v + 2) = v + 2 := wrap_small (by omega) (by omega)
  have w3 : IntKind.wrap .i64 (v + 3) = v + 3 := wrap_small (by omega) (by omega)
  have r0 : inR v 255 = true := by rw [inR_le]; omega
  have r1 : inR (v + 1) 255 = true := by rw [inR_le]; omega
  have r2 : inR (v + 2) 255 = true := by rw [inR_le]; omega
  have r3 : inR (v + 3) 255 = true := by rw [inR_le]; omega
  have dd : ∀ n : Int, decide (n = n) = true := fun n => by simp
  have hss : M00.sess.map oS = [oS ⟨3, 0, 3, [⟨2, 0, 0, 0⟩, ⟨1, 0, 0, 0⟩, ⟨3, 0, 0, 0⟩], 0, 0, ⟨0, 0, 0, 0⟩, [], [], 0, 0, 0, 0, 0⟩, oS ⟨5, 1, 1, [⟨2, 0, 0, 1⟩, ⟨3, 0, 1, 0⟩], 0, 0, ⟨0, 0, 0, 0⟩, [], [], 0, 0, 0, 0, 0⟩] := rfl
  have hl : ((M00.sess.length : Nat) : Int) = 2 := rfl
  have k4 : ((4 : Nat) : Int) = 4 := rfl
  have m1 : ((1 : Int) * ((24 : Nat) : Int) ≤ 140737488355328) = True := by simp
  have m2 : ((2 : Int) * ((24 : Nat) : Int) ≤ 140737488355328) = True := by simp
  have m3 : ((3 : Int) * ((24 : Nat) : Int) ≤ 140737488355328) = True := by simp
  have m4 : ((4 : Int) * ((24 : Nat) : Int) ≤ 140737488355328) = True := by simp
  have hw : writesMay [⟨0, 0, v⟩, ⟨0, 1, v + 1⟩, ⟨0, 3, v + 3⟩] = true := by simp [writesMay, writesGo, write1, place, r0, r1, r2, r3]; try decide
  have f0 := s_back (i + 1) false (BA [⟨0, 0, 4⟩, ⟨0, 0, 4⟩, ⟨0, 0, 4⟩, ⟨0, 0, 4⟩] [⟨0, 0, v⟩, ⟨0, 1, v + 1⟩, ⟨0, 3, v + 3⟩] 0 c) (ba_sm (by rfl) (by simp)) 0
  have g0 : backM (BA [⟨0, 0, 4⟩, ⟨0, 0, 4⟩, ⟨0, 0, 4⟩, ⟨0, 0, 4⟩] [⟨0, 0, v⟩, ⟨0, 1, v + 1⟩, ⟨0, 3, v + 3⟩] 0 c) 0 = (BA [⟨v, c, 0⟩, ⟨0, 0, 4⟩, ⟨0, 0, 4⟩, ⟨0, 0, 4⟩] [⟨0, 0, v⟩, ⟨0, 1, v + 1⟩, ⟨0, 3, v + 3⟩] 1 c, 0) := by
    have := ba_step (n := 0) (rows := [⟨0, 0, 4⟩, ⟨0, 0, 4⟩, ⟨0, 0, 4⟩, ⟨0, 0, 4⟩]) (ws := [⟨0, 0, v⟩, ⟨0, 1, v + 1⟩, ⟨0, 3, v + 3⟩]) (c := c) (by rfl) (by simp [rowMay, wordMay, hc, r0, r1, r2, r3]; try decide) hw (ws_all (by rfl)) hc (by rfl)
    rw [show (((0 : Nat)) : Int) = 0 from rfl] at this
    rw [this]
    simp [freeW]
  rw [g0] at f0
  have f1 := s_back (i + 1) true (BA [⟨v, c, 0⟩, ⟨0, 0, 4⟩, ⟨0, 0, 4⟩, ⟨0, 0, 4⟩] [⟨0, 0, v⟩, ⟨0, 1, v + 1⟩, ⟨0, 3, v + 3⟩] 1 c) (ba_sm (by rfl) (by simp)) 0
  have g1 : backM (BA [⟨v, c, 0⟩, ⟨0, 0, 4⟩, ⟨0, 0, 4⟩, ⟨0, 0, 4⟩] [⟨0, 0, v⟩, ⟨0, 1, v + 1⟩, ⟨0, 3, v + 3⟩] 1 c) 0 = (BA [⟨v, c, 0⟩, ⟨v + 1, c, 0⟩, ⟨0, 0, 4⟩, ⟨0, 0, 4⟩] [⟨0, 0, v⟩, ⟨0, 1, v + 1⟩, ⟨0, 3, v + 3⟩] 2 c, 0) := by
    have := ba_step (n := 1) (rows := [⟨v, c, 0⟩, ⟨0, 0, 4⟩, ⟨0, 0, 4⟩, ⟨0, 0, 4⟩]) (ws := [⟨0, 0, v⟩, ⟨0, 1, v + 1⟩, ⟨0, 3, v + 3⟩]) (c := c) (by rfl) (by simp [rowMay, wordMay, hc, r0, r1, r2, r3]; try decide) hw (ws_all (by rfl)) hc (by rfl)
    rw [show (((1 : Nat)) : Int) = 1 from rfl] at this
    rw [this]
    simp [freeW]
  rw [g1] at f1
  have f2 := s_back (i + 1) true (BA [⟨v, c, 0⟩, ⟨v + 1, c, 0⟩, ⟨0, 0, 4⟩, ⟨0, 0, 4⟩] [⟨0, 0, v⟩, ⟨0, 1, v + 1⟩, ⟨0, 3, v + 3⟩] 2 c) (ba_sm (by rfl) (by simp)) 0
  have g2 : backM (BA [⟨v, c, 0⟩, ⟨v + 1, c, 0⟩, ⟨0, 0, 4⟩, ⟨0, 0, 4⟩] [⟨0, 0, v⟩, ⟨0, 1, v + 1⟩, ⟨0, 3, v + 3⟩] 2 c) 0 = (BE [⟨v, c, 0⟩, ⟨v + 1, c, 0⟩, ⟨0, 0, 0⟩, ⟨v + 3, c, 0⟩], 0) := by
    have := ba_step (n := 2) (rows := [⟨v, c, 0⟩, ⟨v + 1, c, 0⟩, ⟨0, 0, 4⟩, ⟨0, 0, 4⟩]) (ws := [⟨0, 0, v⟩, ⟨0, 1, v + 1⟩, ⟨0, 3, v + 3⟩]) (c := c) (by rfl) (by simp [rowMay, wordMay, hc, r0, r1, r2, r3]; try decide) hw (ws_all (by rfl)) hc (by rfl)
    rw [show (((2 : Nat)) : Int) = 2 from rfl] at this
    rw [this]
    simp [freeW]
  rw [g2] at f2
  simp only [Nat.add_assoc, Nat.reduceAdd, BA, BAs, BE, BEs, BS5, oM, cO, oWs, oSs, oEs, oIs, oRs, oWrs, oS, eM, cM, eWs, eSs, eEs, eIs, eRs, eWrs, List.map_cons, List.map_nil, eS, eI, eR, eWr, eW, eE] at f0 f1 f2
  simp only [M00, BS5, oM, cO, oWs, oSs, oEs, oIs, oRs, oWrs, List.map_cons, List.map_nil, oS, eI, eR, eWr, eW, eE] at hbe
  refine sp_of rfl 6 (by rfl) ?_
  delta c12
  simp (config := { contextual := true, dsimp := false, implicitDefEqProofs := false, maxSteps := 5000000 }) only [haw, hbe, ev, ec, s0, s1, s2, s3, b0, b1, b2, b3, w0, w1, w2, w3, dd, hss, hl, k4, m1, m2, m3, m4, List.replicate, gLs, ↓un_c (c12_1.eq_1), ↓un_c (c12_2.eq_1), ↓un_c (c12_3.eq_1), f0, f1, f2, go_sem, Nat.reduceEqDiff, Nat.reduceAdd, Nat.reduceLeDiff, Nat.reduceMul, Nat.reduceLT, Nat.reduceBEq, Int.reduceLT, Int.reduceLE, Int.reduceToNat, Int.reduceAdd, Int.reduceSub, Int.reduceEq, Int.reduceNeg, ↓reduceIte]
set_option maxHeartbeats 8000000 in
theorem u_all12 (i : Nat) (bits x y v c : Int) (B0 B1 B2 B3 : Int) (hv : inR v 127 = true) (hc : inR c 65535 = true) (ev : andI x 127 = v) (ec : andI y 65535 = c)
    (s0 : ∀ t, opBin lay .shr t (iV bits) (iV 0) = some (iV B0)) (s1 : ∀ t, opBin lay .shr t (iV bits) (iV 1) = some (iV B1)) (s2 : ∀ t, opBin lay .shr t (iV bits) (iV 2) = some (iV B2)) (s3 : ∀ t, opBin lay .shr t (iV bits) (iV 3) = some (iV B3))
    (b0 : decide (andI B0 1 = 1) = false) (b1 : decide (andI B1 1 = 1) = false) (b2 : decide (andI B2 1 = 1) = true) (b3 : decide (andI B3 1 = 1) = true)
    (haw : pureOf (Lv ctx (i + 23)) 31 [] = some (bV true)) (hbe : pureOf (Lv ctx (i + 23)) 33 [] = some (oM M00)) : pureOf (Lv ctx (i + 24)) 12 [iV bits, iV x, iV y] = some (bV true) := by
  have hv' := inR_le.1 hv
  have hc' := inR_le.1 hc
  have w0 : IntKind.wrap .i64 (v + 0) = v := by rw [Int.add_zero]; exact wrap_small (by omega) (by omega)
  have w1 : IntKind.wrap .i64 (v + 1) = v + 1 := wrap_small (by omega) (by omega)
  have w2 : IntKind.wrap .i64 (v + 2) = v + 2 := wrap_small (by omega) (by omega)
  have w3 : IntKind.wrap .i64 (v + 3) = v + 3 := wrap_small (by omega) (by omega)
  have r0 : inR v 255 = true := by rw [inR_le]; omega
  have r1 : inR (v + 1) 255 = true := by rw [inR_le]; omega
  have r2 : inR (v + 2) 255 = true := by rw [inR_le]; omega
  have r3 : inR (v + 3) 255 = true := by rw [inR_le]; omega
  have dd : ∀ n : Int, decide (n = n) = true := fun n => by simp
  have hss : M00.sess.map oS = [oS ⟨3, 0, 3, [⟨2, 0, 0, 0⟩, ⟨1, 0, 0, 0⟩, ⟨3, 0, 0, 0⟩], 0, 0, ⟨0, 0, 0, 0⟩, [], [], 0, 0, 0, 0, 0⟩, oS ⟨5, 1, 1, [⟨2, 0, 0, 1⟩, ⟨3, 0, 1, 0⟩], 0, 0, ⟨0, 0, 0, 0⟩, [], [], 0, 0, 0, 0, 0⟩] := rfl
  have hl : ((M00.sess.length : Nat) : Int) = 2 := rfl
  have k4 : ((4 : Nat) : Int) = 4 := rfl
  have m1 : ((1 : Int) * ((24 : Nat) : Int) ≤ 140737488355328) = True := by simp
  have m2 : ((2 : Int) * ((24 : Nat) : Int) ≤ 140737488355328) = True := by simp
  have m3 : ((3 : Int) * ((24 : Nat) : Int) ≤ 140737488355328) = True := by simp
  have m4 : ((4 : Int) * ((24 : Nat) : Int) ≤ 140737488355328) = True := by simp
  have hw : writesMay [⟨0, 2, v + 2⟩, ⟨0, 3, v + 3⟩] = true := by simp [writesMay, writesGo, write1, place, r0, r1, r2, r3]; try decide
  have f0 := s_back (i + 1) false (BA [⟨0, 0, 4⟩, ⟨0, 0, 4⟩, ⟨0, 0, 4⟩, ⟨0, 0, 4⟩] [⟨0, 2, v + 2⟩, ⟨0, 3, v + 3⟩] 0 c) (ba_sm (by rfl) (by simp)) 0
  have g0 : backM (BA [⟨0, 0, 4⟩, ⟨0, 0, 4⟩, ⟨0, 0, 4⟩, ⟨0, 0, 4⟩] [⟨0, 2, v + 2⟩, ⟨0, 3, v + 3⟩] 0 c) 0 = (BA [⟨0, 0, 4⟩, ⟨0, 0, 4⟩, ⟨v + 2, c, 0⟩, ⟨0, 0, 4⟩] [⟨0, 2, v + 2⟩, ⟨0, 3, v + 3⟩] 1 c, 0) := by
    have := ba_step (n := 0) (rows := [⟨0, 0, 4⟩, ⟨0, 0, 4⟩, ⟨0, 0, 4⟩, ⟨0, 0, 4⟩]) (ws := [⟨0, 2, v + 2⟩, ⟨0, 3, v + 3⟩]) (c := c) (by rfl) (by simp [rowMay, wordMay, hc, r0, r1, r2, r3]; try decide) hw (ws_all (by rfl)) hc (by rfl)
    rw [show (((0 : Nat)) : Int) = 0 from rfl] at this
    rw [this]
    simp [freeW]
  rw [g0] at f0
  have f1 := s_back (i + 1) true (BA [⟨0, 0, 4⟩, ⟨0, 0, 4⟩, ⟨v + 2, c, 0⟩, ⟨0, 0, 4⟩] [⟨0, 2, v + 2⟩, ⟨0, 3, v + 3⟩] 1 c) (ba_sm (by rfl) (by simp)) 0
  have g1 : backM (BA [⟨0, 0, 4⟩, ⟨0, 0, 4⟩, ⟨v + 2, c, 0⟩, ⟨0, 0, 4⟩] [⟨0, 2, v + 2⟩, ⟨0, 3, v + 3⟩] 1 c) 0 = (BE [⟨0, 0, 0⟩, ⟨0, 0, 0⟩, ⟨v + 2, c, 0⟩, ⟨v + 3, c, 0⟩], 0) := by
    have := ba_step (n := 1) (rows := [⟨0, 0, 4⟩, ⟨0, 0, 4⟩, ⟨v + 2, c, 0⟩, ⟨0, 0, 4⟩]) (ws := [⟨0, 2, v + 2⟩, ⟨0, 3, v + 3⟩]) (c := c) (by rfl) (by simp [rowMay, wordMay, hc, r0, r1, r2, r3]; try decide) hw (ws_all (by rfl)) hc (by rfl)
    rw [show (((1 : Nat)) : Int) = 1 from rfl] at this
    rw [this]
    simp [freeW]
  rw [g1] at f1
  simp only [Nat.add_assoc, Nat.reduceAdd, BA, BAs, BE, BEs, BS5, oM, cO, oWs, oSs, oEs, oIs, oRs, oWrs, oS, eM, cM, eWs, eSs, eEs, eIs, eRs, eWrs, List.map_cons, List.map_nil, eS, eI, eR, eWr, eW, eE] at f0 f1
  simp only [M00, BS5, oM, cO, oWs, oSs, oEs, oIs, oRs, oWrs, List.map_cons, List.map_nil, oS, eI, eR, eWr, eW, eE] at hbe
  refine sp_of rfl 6 (by rfl) ?_
  delta c12
  simp (config := { contextual := true, dsimp := false, implicitDefEqProofs := false, maxSteps := 5000000 }) only [haw, hbe, ev, ec, s0, s1, s2, s3, b0, b1, b2, b3, w0, w1, w2, w3, dd, hss, hl, k4, m1, m2, m3, m4, List.replicate, gLs, ↓un_c (c12_1.eq_1), ↓un_c (c12_2.eq_1), ↓un_c (c12_3.eq_1), f0, f1, go_sem, Nat.reduceEqDiff, Nat.reduceAdd, Nat.reduceLeDiff, Nat.reduceMul, Nat.reduceLT, Nat.reduceBEq, Int.reduceLT, Int.reduceLE, Int.reduceToNat, Int.reduceAdd, Int.reduceSub, Int.reduceEq, Int.reduceNeg, ↓reduceIte]
set_option maxHeartbeats 8000000 in
theorem u_all13 (i : Nat) (bits x y v c : Int) (B0 B1 B2 B3 : Int) (hv : inR v 127 = true) (hc : inR c 65535 = true) (ev : andI x 127 = v) (ec : andI y 65535 = c)
    (s0 : ∀ t, opBin lay .shr t (iV bits) (iV 0) = some (iV B0)) (s1 : ∀ t, opBin lay .shr t (iV bits) (iV 1) = some (iV B1)) (s2 : ∀ t, opBin lay .shr t (iV bits) (iV 2) = some (iV B2)) (s3 : ∀ t, opBin lay .shr t (iV bits) (iV 3) = some (iV B3))
    (b0 : decide (andI B0 1 = 1) = true) (b1 : decide (andI B1 1 = 1) = false) (b2 : decide (andI B2 1 = 1) = true) (b3 : decide (andI B3 1 = 1) = true)
    (haw : pureOf (Lv ctx (i + 23)) 31 [] = some (bV true)) (hbe : pureOf (Lv ctx (i + 23)) 33 [] = some (oM M00)) : pureOf (Lv ctx (i + 24)) 12 [iV bits, iV x, iV y] = some (bV true) := by
  have hv' := inR_le.1 hv
  have hc' := inR_le.1 hc
  have w0 : IntKind.wrap .i64 (v + 0) = v := by rw [Int.add_zero]; exact wrap_small (by omega) (by omega)
  have w1 : IntKind.wrap .i64 (v + 1) = v + 1 := wrap_small (by omega) (by omega)
  have w2 : IntKind.wrap .i64 (v + 2) = v + 2 := wrap_small (by omega) (by omega)
  have w3 : IntKind.wrap .i64 (v + 3) = v + 3 := wrap_small (by omega) (by omega)
  have r0 : inR v 255 = true := by rw [inR_le]; omega
  have r1 : inR (v + 1) 255 = true := by rw [inR_le]; omega
  have r2 : inR (v + 2) 255 = true := by rw [inR_le]; omega
  have r3 : inR (v + 3) 255 = true := by rw [inR_le]; omega
  have dd : ∀ n : Int, decide (n = n) = true := fun n => by simp
  have hss : M00.sess.map oS = [oS ⟨3, 0, 3, [⟨2, 0, 0, 0⟩, ⟨1, 0, 0, 0⟩, ⟨3, 0, 0, 0⟩], 0, 0, ⟨0, 0, 0, 0⟩, [], [], 0, 0, 0, 0, 0⟩, oS ⟨5, 1, 1, [⟨2, 0, 0, 1⟩, ⟨3, 0, 1, 0⟩], 0, 0, ⟨0, 0, 0, 0⟩, [], [], 0, 0, 0, 0, 0⟩] := rfl
  have hl : ((M00.sess.length : Nat) : Int) = 2 := rfl
  have k4 : ((4 : Nat) : Int) = 4 := rfl
  have m1 : ((1 : Int) * ((24 : Nat) : Int) ≤ 140737488355328) = True := by simp
  have m2 : ((2 : Int) * ((24 : Nat) : Int) ≤ 140737488355328) = True := by simp
  have m3 : ((3 : Int) * ((24 : Nat) : Int) ≤ 140737488355328) = True := by simp
  have m4 : ((4 : Int) * ((24 : Nat) : Int) ≤ 140737488355328) = True := by simp
  have hw : writesMay [⟨0, 0, v⟩, ⟨0, 2, v + 2⟩, ⟨0, 3, v + 3⟩] = true := by simp [writesMay, writesGo, write1, place, r0, r1, r2, r3]; try decide
  have f0 := s_back (i + 1) false (BA [⟨0, 0, 4⟩, ⟨0, 0, 4⟩, ⟨0, 0, 4⟩, ⟨0, 0, 4⟩] [⟨0, 0, v⟩, ⟨0, 2, v + 2⟩, ⟨0, 3, v + 3⟩] 0 c) (ba_sm (by rfl) (by simp)) 0
  have g0 : backM (BA [⟨0, 0, 4⟩, ⟨0, 0, 4⟩, ⟨0, 0, 4⟩, ⟨0, 0, 4⟩] [⟨0, 0, v⟩, ⟨0, 2, v + 2⟩, ⟨0, 3, v + 3⟩] 0 c) 0 = (BA [⟨v, c, 0⟩, ⟨0, 0, 4⟩, ⟨0, 0, 4⟩, ⟨0, 0, 4⟩] [⟨0, 0, v⟩, ⟨0, 2, v + 2⟩, ⟨0, 3, v + 3⟩] 1 c, 0) := by
    have := ba_step (n := 0) (rows := [⟨0, 0, 4⟩, ⟨0, 0, 4⟩, ⟨0, 0, 4⟩, ⟨0, 0, 4⟩]) (ws := [⟨0, 0, v⟩, ⟨0, 2, v + 2⟩, ⟨0, 3, v + 3⟩]) (c := c) (by rfl) (by simp [rowMay, wordMay, hc, r0, r1, r2, r3]; try decide) hw (ws_all (by rfl)) hc (by rfl)
    rw [show (((0 : Nat)) : Int) = 0 from rfl] at this
    rw [this]
    simp [freeW]
  rw [g0] at f0
  have f1 := s_back (i + 1) true (BA [⟨v, c, 0⟩, ⟨0, 0, 4⟩, ⟨0, 0, 4⟩, ⟨0, 0, 4⟩] [⟨0, 0, v⟩, ⟨0, 2, v + 2⟩, ⟨0, 3, v + 3⟩] 1 c) (ba_sm (by rfl) (by simp)) 0
  have g1 : backM (BA [⟨v, c, 0⟩, ⟨0, 0, 4⟩, ⟨0, 0, 4⟩, ⟨0, 0, 4⟩] [⟨0, 0, v⟩, ⟨0, 2, v + 2⟩, ⟨0, 3, v + 3⟩] 1 c) 0 = (BA [⟨v, c, 0⟩, ⟨0, 0, 4⟩, ⟨v + 2, c, 0⟩, ⟨0, 0, 4⟩] [⟨0, 0, v⟩, ⟨0, 2, v + 2⟩, ⟨0, 3, v + 3⟩] 2 c, 0) := by
    have := ba_step (n := 1) (rows := [⟨v, c, 0⟩, ⟨0, 0, 4⟩, ⟨0, 0, 4⟩, ⟨0, 0, 4⟩]) (ws := [⟨0, 0, v⟩, ⟨0, 2, v + 2⟩, ⟨0, 3, v + 3⟩]) (c := c) (by rfl) (by simp [rowMay, wordMay, hc, r0, r1, r2, r3]; try decide) hw (ws_all (by rfl)) hc (by rfl)
    rw [show (((1 : Nat)) : Int) = 1 from rfl] at this
    rw [this]
    simp [freeW]
  rw [g1] at f1
  have f2 := s_back (i + 1) true (BA [⟨v, c, 0⟩, ⟨0, 0, 4⟩, ⟨v + 2, c, 0⟩, ⟨0, 0, 4⟩] [⟨0, 0, v⟩, ⟨0, 2, v + 2⟩, ⟨0, 3, v + 3⟩] 2 c) (ba_sm (by rfl) (by simp)) 0
  have g2 : backM (BA [⟨v, c, 0⟩, ⟨0, 0, 4⟩, ⟨v + 2, c, 0⟩, ⟨0, 0, 4⟩] [⟨0, 0, v⟩, ⟨0, 2, v + 2⟩, ⟨0, 3, v + 3⟩] 2 c) 0 = (BE [⟨v, c, 0⟩, ⟨0, 0, 0⟩, ⟨v + 2, c, 0⟩, ⟨v + 3, c, 0⟩], 0) := by
    have := ba_step (n := 2) (rows := [⟨v, c, 0⟩, ⟨0, 0, 4⟩, ⟨v + 2, c, 0⟩, ⟨0, 0, 4⟩]) (ws := [⟨0, 0, v⟩, ⟨0, 2, v + 2⟩, ⟨0, 3, v + 3⟩]) (c := c) (by rfl) (by simp [rowMay, wordMay, hc, r0, r1, r2, r3]; try decide) hw (ws_all (by rfl)) hc (by rfl)
    rw [show (((2 : Nat)) : Int) = 2 from rfl] at this
    rw [this]
    simp [freeW]
  rw [g2] at f2
  simp only [Nat.add_assoc, Nat.reduceAdd, BA, BAs, BE, BEs, BS5, oM, cO, oWs, oSs, oEs, oIs, oRs, oWrs, oS, eM, cM, eWs, eSs, eEs, eIs, eRs, eWrs, List.map_cons, List.map_nil, eS, eI, eR, eWr, eW, eE] at f0 f1 f2
  simp only [M00, BS5, oM, cO, oWs, oSs, oEs, oIs, oRs, oWrs, List.map_cons, List.map_nil, oS, eI, eR, eWr, eW, eE] at hbe
  refine sp_of rfl 6 (by rfl) ?_
  delta c12
  simp (config := { contextual := true, dsimp := false, implicitDefEqProofs := false, maxSteps := 5000000 }) only [haw, hbe, ev, ec, s0, s1, s2, s3, b0, b1, b2, b3, w0, w1, w2, w3, dd, hss, hl, k4, m1, m2, m3, m4, List.replicate, gLs, ↓un_c (c12_1.eq_1), ↓un_c (c12_2.eq_1), ↓un_c (c12_3.eq_1), f0, f1, f2, go_sem, Nat.reduceEqDiff, Nat.reduceAdd, Nat.reduceLeDiff, Nat.reduceMul, Nat.reduceLT, Nat.reduceBEq, Int.reduceLT, Int.reduceLE, Int.reduceToNat, Int.reduceAdd, Int.reduceSub, Int.reduceEq, Int.reduceNeg, ↓reduceIte]
set_option maxHeartbeats 8000000 in
theorem u_all14 (i : Nat) (bits x y v c : Int) (B0 B1 B2 B3 : Int) (hv : inR v 127 = true) (hc : inR c 65535 = true) (ev : andI x 127 = v) (ec : andI y 65535 = c)
    (s0 : ∀ t, opBin lay .shr t (iV bits) (iV 0) = some (iV B0)) (s1 : ∀ t, opBin lay .shr t (iV bits) (iV 1) = some (iV B1)) (s2 : ∀ t, opBin lay .shr t (iV bits) (iV 2) = some (iV B2)) (s3 : ∀ t, opBin lay .shr t (iV bits) (iV 3) = some (iV B3))
    (b0 : decide (andI B0 1 = 1) = false) (b1 : decide (andI B1 1 = 1) = true) (b2 : decide (andI B2 1 = 1) = true) (b3 : decide (andI B3 1 = 1) = true)
    (haw : pureOf (Lv ctx (i + 23)) 31 [] = some (bV true)) (hbe : pureOf (Lv ctx (i + 23)) 33 [] = some (oM M00)) : pureOf (Lv ctx (i + 24)) 12 [iV bits, iV x, iV y] = some (bV true) := by
  have hv' := inR_le.1 hv
  have hc' := inR_le.1 hc
  have w0 : IntKind.wrap .i64 (v + 0) = v := by rw [Int.add_zero]; exact wrap_small (by omega) (by omega)
  have w1 : IntKind.wrap .i64 (v + 1) = v + 1 := wrap_small (by omega) (by omega)
  have w2 : IntKind.wrap .i64 (v + 2) = v + 2 := wrap_small (by omega) (by omega)
  have w3 : IntKind.wrap .i64 (v + 3) = v + 3 := wrap_small (by omega) (by omega)
  have r0 : inR v 255 = true := by rw [inR_le]; omega
  have r1 : inR (v + 1) 255 = true := by rw [inR_le]; omega
  have r2 : inR (v + 2) 255 = true := by rw [inR_le]; omega
  have r3 : inR (v + 3) 255 = true := by rw [inR_le]; omega
  have dd : ∀ n : Int, decide (n = n) = true := fun n => by simp
  have hss : M00.sess.map oS = [oS ⟨3, 0, 3, [⟨2, 0, 0, 0⟩, ⟨1, 0, 0, 0⟩, ⟨3, 0, 0, 0⟩], 0, 0, ⟨0, 0, 0, 0⟩, [], [], 0, 0, 0, 0, 0⟩, oS ⟨5, 1, 1, [⟨2, 0, 0, 1⟩, ⟨3, 0, 1, 0⟩], 0, 0, ⟨0, 0, 0, 0⟩, [], [], 0, 0, 0, 0, 0⟩] := rfl
  have hl : ((M00.sess.length : Nat) : Int) = 2 := rfl
  have k4 : ((4 : Nat) : Int) = 4 := rfl
  have m1 : ((1 : Int) * ((24 : Nat) : Int) ≤ 140737488355328) = True := by simp
  have m2 : ((2 : Int) * ((24 : Nat) : Int) ≤ 140737488355328) = True := by simp
  have m3 : ((3 : Int) * ((24 : Nat) : Int) ≤ 140737488355328) = True := by simp
  have m4 : ((4 : Int) * ((24 : Nat) : Int) ≤ 140737488355328) = True := by simp
  have hw : writesMay [⟨0, 1, v + 1⟩, ⟨0, 2, v + 2⟩, ⟨0, 3, v + 3⟩] = true := by simp [writesMay, writesGo, write1, place, r0, r1, r2, r3]; try decide
  have f0 := s_back (i + 1) false (BA [⟨0, 0, 4⟩, ⟨0, 0, 4⟩, ⟨0, 0, 4⟩, ⟨0, 0, 4⟩] [⟨0, 1, v + 1⟩, ⟨0, 2, v + 2⟩, ⟨0, 3, v + 3⟩] 0 c) (ba_sm (by rfl) (by simp)) 0
  have g0 : backM (BA [⟨0, 0, 4⟩, ⟨0, 0, 4⟩, ⟨0, 0, 4⟩, ⟨0, 0, 4⟩] [⟨0, 1, v + 1⟩, ⟨0, 2, v + 2⟩, ⟨0, 3, v + 3⟩] 0 c) 0 = (BA [⟨0, 0, 4⟩, ⟨v + 1, c, 0⟩, ⟨0, 0, 4⟩, ⟨0, 0, 4⟩] [⟨0, 1, v + 1⟩, ⟨0, 2, v + 2⟩, ⟨0, 3, v + 3⟩] 1 c, 0) := by
    have := ba_step (n := 0) (rows := [⟨0, 0, 4⟩, ⟨0, 0, 4⟩, ⟨0, 0, 4⟩, ⟨0, 0, 4⟩]) (ws := [⟨0, 1, v + 1⟩, ⟨0, 2, v + 2⟩, ⟨0, 3, v + 3⟩]) (c := c) (by rfl) (by simp [rowMay, wordMay, hc, r0, r1, r2, r3]; try decide) hw (ws_all (by rfl)) hc (by rfl)
    rw [show (((0 : Nat)) : Int) = 0 from rfl] at this
    rw [this]
    simp [freeW]
  rw [g0] at f0
  have f1 := s_back (i + 1) true (BA [⟨0, 0, 4⟩, ⟨v + 1, c, 0⟩, ⟨0, 0, 4⟩, ⟨0, 0, 4⟩] [⟨0, 1, v + 1⟩, ⟨0, 2, v + 2⟩, ⟨0, 3, v + 3⟩] 1 c) (ba_sm (by rfl) (by simp)) 0
  have g1 : backM (BA [⟨0, 0, 4⟩, ⟨v + 1, c, 0⟩, ⟨0, 0, 4⟩, ⟨0, 0, 4⟩] [⟨0, 1, v + 1⟩, ⟨0, 2, v + 2⟩, ⟨0, 3, v + 3⟩] 1 c) 0 = (BA [⟨0, 0, 4⟩, ⟨v + 1, c, 0⟩, ⟨v + 2, c, 0⟩, ⟨0, 0, 4⟩] [⟨0, 1, v + 1⟩, ⟨0, 2, v + 2⟩, ⟨0, 3, v + 3⟩] 2 c, 0) := by
    have := ba_step (n := 1) (rows := [⟨0, 0, 4⟩, ⟨v + 1, c, 0⟩, ⟨0, 0, 4⟩, ⟨0, 0, 4⟩]) (ws := [⟨0, 1, v + 1⟩, ⟨0, 2, v + 2⟩, ⟨0, 3, v + 3⟩]) (c := c) (by rfl) (by simp [rowMay, wordMay, hc, r0, r1, r2, r3]; try decide) hw (ws_all (by rfl)) hc (by rfl)
    rw [show (((1 : Nat)) : Int) = 1 from rfl] at this
    rw [this]
    simp [freeW]
  rw [g1] at f1
  have f2 := s_back (i + 1) true (BA [⟨0, 0, 4⟩, ⟨v + 1, c, 0⟩, ⟨v + 2, c, 0⟩, ⟨0, 0, 4⟩] [⟨0, 1, v + 1⟩, ⟨0, 2, v + 2⟩, ⟨0, 3, v + 3⟩] 2 c) (ba_sm (by rfl) (by simp)) 0
  have g2 : backM (BA [⟨0, 0, 4⟩, ⟨v + 1, c, 0⟩, ⟨v + 2, c, 0⟩, ⟨0, 0, 4⟩] [⟨0, 1, v + 1⟩, ⟨0, 2, v + 2⟩, ⟨0, 3, v + 3⟩] 2 c) 0 = (BE [⟨0, 0, 0⟩, ⟨v + 1, c, 0⟩, ⟨v + 2, c, 0⟩, ⟨v + 3, c, 0⟩], 0) := by
    have := ba_step (n := 2) (rows := [⟨0, 0, 4⟩, ⟨v + 1, c, 0⟩, ⟨v + 2, c, 0⟩, ⟨0, 0, 4⟩]) (ws := [⟨0, 1, v + 1⟩, ⟨0, 2, v + 2⟩, ⟨0, 3, v + 3⟩]) (c := c) (by rfl) (by simp [rowMay, wordMay, hc, r0, r1, r2, r3]; try decide) hw (ws_all (by rfl)) hc (by rfl)
    rw [show (((2 : Nat)) : Int) = 2 from rfl] at this
    rw [this]
    simp [freeW]
  rw [g2] at f2
  simp only [Nat.add_assoc, Nat.reduceAdd, BA, BAs, BE, BEs, BS5, oM, cO, oWs, oSs, oEs, oIs, oRs, oWrs, oS, eM, cM, eWs, eSs, eEs, eIs, eRs, eWrs, List.map_cons, List.map_nil, eS, eI, eR, eWr, eW, eE] at f0 f1 f2
  simp only [M00, BS5, oM, cO, oWs, oSs, oEs, oIs, oRs, oWrs, List.map_cons, List.map_nil, oS, eI, eR, eWr, eW, eE] at hbe
  refine sp_of rfl 6 (by rfl) ?_
  delta c12
  simp (config := { contextual := true, dsimp := false, implicitDefEqProofs := false, maxSteps := 5000000 }) only [haw, hbe, ev, ec, s0, s1, s2, s3, b0, b1, b2, b3, w0, w1, w2, w3, dd, hss, hl, k4, m1, m2, m3, m4, List.replicate, gLs, ↓un_c (c12_1.eq_1), ↓un_c (c12_2.eq_1), ↓un_c (c12_3.eq_1), f0, f1, f2, go_sem, Nat.reduceEqDiff, Nat.reduceAdd, Nat.reduceLeDiff, Nat.reduceMul, Nat.reduceLT, Nat.reduceBEq, Int.reduceLT, Int.reduceLE, Int.reduceToNat, Int.reduceAdd, Int.reduceSub, Int.reduceEq, Int.reduceNeg, ↓reduceIte]
set_option maxHeartbeats 8000000 in
theorem u_all15 (i : Nat) (bits x y v c : Int) (B0 B1 B2 B3 : Int) (hv : inR v 127 = true) (hc : inR c 65535 = true) (ev : andI x 127 = v) (ec : andI y 65535 = c)
    (s0 : ∀ t, opBin lay .shr t (iV bits) (iV 0) = some (iV B0)) (s1 : ∀ t, opBin lay .shr t (iV bits) (iV 1) = some (iV B1)) (s2 : ∀ t, opBin lay .shr t (iV bits) (iV 2) = some (iV B2)) (s3 : ∀ t, opBin lay .shr t (iV bits) (iV 3) = some (iV B3))
    (b0 : decide (andI B0 1 = 1) = true) (b1 : decide (andI B1 1 = 1) = true) (b2 : decide (andI B2 1 = 1) = true) (b3 : decide (andI B3 1 = 1) = true)
    (haw : pureOf (Lv ctx (i + 23)) 31 [] = some (bV true)) (hbe : pureOf (Lv ctx (i + 23)) 33 [] = some (oM M00)) : pureOf (Lv ctx (i + 24)) 12 [iV bits, iV x, iV y] = some (bV true) := by
  have hv' := inR_le.1 hv
  have hc' := inR_le.1 hc
  have w0 : IntKind.wrap .i64 (v + 0) = v := by rw [Int.add_zero]; exact wrap_small (by omega) (by omega)
  have w1 : IntKind.wrap .i64 (v + 1) = v + 1 := wrap_small (by omega) (by omega)
  have w2 : IntKind.wrap .i64 (v + 2) = v + 2 := wrap_small (by omega) (by omega)
  have w3 : IntKind.wrap .i64 (v + 3) = v + 3 := wrap_small (by omega) (by omega)
  have r0 : inR v 255 = true := by rw [inR_le]; omega
  have r1 : inR (v + 1) 255 = true := by rw [inR_le]; omega
  have r2 : inR (v + 2) 255 = true := by rw [inR_le]; omega
  have r3 : inR (v + 3) 255 = true := by rw [inR_le]; omega
  have dd : ∀ n : Int, decide (n = n) = true := fun n => by simp
  have hss : M00.sess.map oS = [oS ⟨3, 0, 3, [⟨2, 0, 0, 0⟩, ⟨1, 0, 0, 0⟩, ⟨3, 0, 0, 0⟩], 0, 0, ⟨0, 0, 0, 0⟩, [], [], 0, 0, 0, 0, 0⟩, oS ⟨5, 1, 1, [⟨2, 0, 0, 1⟩, ⟨3, 0, 1, 0⟩], 0, 0, ⟨0, 0, 0, 0⟩, [], [], 0, 0, 0, 0, 0⟩] := rfl
  have hl : ((M00.sess.length : Nat) : Int) = 2 := rfl
  have k4 : ((4 : Nat) : Int) = 4 := rfl
  have m1 : ((1 : Int) * ((24 : Nat) : Int) ≤ 140737488355328) = True := by simp
  have m2 : ((2 : Int) * ((24 : Nat) : Int) ≤ 140737488355328) = True := by simp
  have m3 : ((3 : Int) * ((24 : Nat) : Int) ≤ 140737488355328) = True := by simp
  have m4 : ((4 : Int) * ((24 : Nat) : Int) ≤ 140737488355328) = True := by simp
  have hw : writesMay [⟨0, 0, v⟩, ⟨0, 1, v + 1⟩, ⟨0, 2, v + 2⟩, ⟨0, 3, v + 3⟩] = true := by simp [writesMay, writesGo, write1, place, r0, r1, r2, r3]; try decide
  have f0 := s_back (i + 1) false (BA [⟨0, 0, 4⟩, ⟨0, 0, 4⟩, ⟨0, 0, 4⟩, ⟨0, 0, 4⟩] [⟨0, 0, v⟩, ⟨0, 1, v + 1⟩, ⟨0, 2, v + 2⟩, ⟨0, 3, v + 3⟩] 0 c) (ba_sm (by rfl) (by simp)) 0
  have g0 : backM (BA [⟨0, 0, 4⟩, ⟨0, 0, 4⟩, ⟨0, 0, 4⟩, ⟨0, 0, 4⟩] [⟨0, 0, v⟩, ⟨0, 1, v + 1⟩, ⟨0, 2, v + 2⟩, ⟨0, 3, v + 3⟩] 0 c) 0 = (BA [⟨v, c, 0⟩, ⟨0, 0, 4⟩, ⟨0, 0, 4⟩, ⟨0, 0, 4⟩] [⟨0, 0, v⟩, ⟨0, 1, v + 1⟩, ⟨0, 2, v + 2⟩, ⟨0, 3, v + 3⟩] 1 c, 0) := by
    have := ba_step (n := 0) (rows := [⟨0, 0, 4⟩, ⟨0, 0, 4⟩, ⟨0, 0, 4⟩, ⟨0, 0, 4⟩]) (ws := [⟨0, 0, v⟩, ⟨0, 1, v + 1⟩, ⟨0, 2, v + 2⟩, ⟨0, 3, v + 3⟩]) (c := c) (by rfl) (by simp [rowMay, wordMay, hc, r0, r1, r2, r3]; try decide) hw (ws_all (by rfl)) hc (by rfl)
    rw [show (((0 : Nat)) : Int) = 0 from rfl] at this
    rw [this]
    simp [freeW]
  rw [g0] at f0
  have f1 := s_back (i + 1) true (BA [⟨v, c, 0⟩, ⟨0, 0, 4⟩, ⟨0, 0, 4⟩, ⟨0, 0, 4⟩] [⟨0, 0, v⟩, ⟨0, 1, v + 1⟩, ⟨0, 2, v + 2⟩, ⟨0, 3, v + 3⟩] 1 c) (ba_sm (by rfl) (by simp)) 0
  have g1 : backM (BA [⟨v, c, 0⟩, ⟨0, 0, 4⟩, ⟨0, 0, 4⟩, ⟨0, 0, 4⟩] [⟨0, 0, v⟩, ⟨0, 1, v + 1⟩, ⟨0, 2, v + 2⟩, ⟨0, 3, v + 3⟩] 1 c) 0 = (BA [⟨v, c, 0⟩, ⟨v + 1, c, 0⟩, ⟨0, 0, 4⟩, ⟨0, 0, 4⟩] [⟨0, 0, v⟩, ⟨0, 1, v + 1⟩, ⟨0, 2, v + 2⟩, ⟨0, 3, v + 3⟩] 2 c, 0) := by
    have := ba_step (n := 1) (rows := [⟨v, c, 0⟩, ⟨0, 0, 4⟩, ⟨0, 0, 4⟩, ⟨0, 0, 4⟩]) (ws := [⟨0, 0, v⟩, ⟨0, 1, v + 1⟩, ⟨0, 2, v + 2⟩, ⟨0, 3, v + 3⟩]) (c := c) (by rfl) (by simp [rowMay, wordMay, hc, r0, r1, r2, r3]; try decide) hw (ws_all (by rfl)) hc (by rfl)
    rw [show (((1 : Nat)) : Int) = 1 from rfl] at this
    rw [this]
    simp [freeW]
  rw [g1] at f1
  have f2 := s_back (i + 1) true (BA [⟨v, c, 0⟩, ⟨v + 1, c, 0⟩, ⟨0, 0, 4⟩, ⟨0, 0, 4⟩] [⟨0, 0, v⟩, ⟨0, 1, v + 1⟩, ⟨0, 2, v + 2⟩, ⟨0, 3, v + 3⟩] 2 c) (ba_sm (by rfl) (by simp)) 0
  have g2 : backM (BA [⟨v, c, 0⟩, ⟨v + 1, c, 0⟩, ⟨0, 0, 4⟩, ⟨0, 0, 4⟩] [⟨0, 0, v⟩, ⟨0, 1, v + 1⟩, ⟨0, 2, v + 2⟩, ⟨0, 3, v + 3⟩] 2 c) 0 = (BA [⟨v, c, 0⟩, ⟨v + 1, c, 0⟩, ⟨v + 2, c, 0⟩, ⟨0, 0, 4⟩] [⟨0, 0, v⟩, ⟨0, 1, v + 1⟩, ⟨0, 2, v + 2⟩, ⟨0, 3, v + 3⟩] 3 c, 0) := by
    have := ba_step (n := 2) (rows := [⟨v, c, 0⟩, ⟨v + 1, c, 0⟩, ⟨0, 0, 4⟩, ⟨0, 0, 4⟩]) (ws := [⟨0, 0, v⟩, ⟨0, 1, v + 1⟩, ⟨0, 2, v + 2⟩, ⟨0, 3, v + 3⟩]) (c := c) (by rfl) (by simp [rowMay, wordMay, hc, r0, r1, r2, r3]; try decide) hw (ws_all (by rfl)) hc (by rfl)
    rw [show (((2 : Nat)) : Int) = 2 from rfl] at this
    rw [this]
    simp [freeW]
  rw [g2] at f2
  have f3 := s_back (i + 1) true (BA [⟨v, c, 0⟩, ⟨v + 1, c, 0⟩, ⟨v + 2, c, 0⟩, ⟨0, 0, 4⟩] [⟨0, 0, v⟩, ⟨0, 1, v + 1⟩, ⟨0, 2, v + 2⟩, ⟨0, 3, v + 3⟩] 3 c) (ba_sm (by rfl) (by simp)) 0
  have g3 : backM (BA [⟨v, c, 0⟩, ⟨v + 1, c, 0⟩, ⟨v + 2, c, 0⟩, ⟨0, 0, 4⟩] [⟨0, 0, v⟩, ⟨0, 1, v + 1⟩, ⟨0, 2, v + 2⟩, ⟨0, 3, v + 3⟩] 3 c) 0 = (BE [⟨v, c, 0⟩, ⟨v + 1, c, 0⟩, ⟨v + 2, c, 0⟩, ⟨v + 3, c, 0⟩], 0) := by
    have := ba_step (n := 3) (rows := [⟨v, c, 0⟩, ⟨v + 1, c, 0⟩, ⟨v + 2, c, 0⟩, ⟨0, 0, 4⟩]) (ws := [⟨0, 0, v⟩, ⟨0, 1, v + 1⟩, ⟨0, 2, v + 2⟩, ⟨0, 3, v + 3⟩]) (c := c) (by rfl) (by simp [rowMay, wordMay, hc, r0, r1, r2, r3]; try decide) hw (ws_all (by rfl)) hc (by rfl)
    rw [show (((3 : Nat)) : Int) = 3 from rfl] at this
    rw [this]
    simp [freeW]
  rw [g3] at f3
  simp only [Nat.add_assoc, Nat.reduceAdd, BA, BAs, BE, BEs, BS5, oM, cO, oWs, oSs, oEs, oIs, oRs, oWrs, oS, eM, cM, eWs, eSs, eEs, eIs, eRs, eWrs, List.map_cons, List.map_nil, eS, eI, eR, eWr, eW, eE] at f0 f1 f2 f3
  simp only [M00, BS5, oM, cO, oWs, oSs, oEs, oIs, oRs, oWrs, List.map_cons, List.map_nil, oS, eI, eR, eWr, eW, eE] at hbe
  refine sp_of rfl 6 (by rfl) ?_
  delta c12
  simp (config := { contextual := true, dsimp := false, implicitDefEqProofs := false, maxSteps := 5000000 }) only [haw, hbe, ev, ec, s0, s1, s2, s3, b0, b1, b2, b3, w0, w1, w2, w3, dd, hss, hl, k4, m1, m2, m3, m4, List.replicate, gLs, ↓un_c (c12_1.eq_1), ↓un_c (c12_2.eq_1), ↓un_c (c12_3.eq_1), f0, f1, f2, f3, go_sem, Nat.reduceEqDiff, Nat.reduceAdd, Nat.reduceLeDiff, Nat.reduceMul, Nat.reduceLT, Nat.reduceBEq, Int.reduceLT, Int.reduceLE, Int.reduceToNat, Int.reduceAdd, Int.reduceSub, Int.reduceEq, Int.reduceNeg, ↓reduceIte]
theorem u_backAll (i : Nat) (bits x y : Int) (haw : pureOf (Lv ctx (i + 23)) 31 [] = some (bV true)) (hbe : pureOf (Lv ctx (i + 23)) 33 [] = some (oM M00)) : pureOf (Lv ctx (i + 24)) 12 [iV bits, iV x, iV y] = some (bV true) := by
  have sh : ∀ j : Int, ¬ j < 0 → ∃ B : Int, ∀ t, opBin lay .shr t (iV bits) (iV j) = some (iV B) := fun j hj => ⟨_, fun t => bin_shr hj⟩
  obtain ⟨B0, s0⟩ := sh 0 (by decide)
  obtain ⟨B1, s1⟩ := sh 1 (by decide)
  obtain ⟨B2, s2⟩ := sh 2 (by decide)
  obtain ⟨B3, s3⟩ := sh 3 (by decide)
  have hv := mask_in x 127 (by omega)
  have hc := mask_in y 65535 (by omega)
  cases b0 : decide (andI B0 1 = 1) <;> cases b1 : decide (andI B1 1 = 1) <;> cases b2 : decide (andI B2 1 = 1) <;> cases b3 : decide (andI B3 1 = 1)
  · exact u_all0 i bits x y _ _ B0 B1 B2 B3 hv hc rfl rfl s0 s1 s2 s3 b0 b1 b2 b3 haw hbe
  · exact u_all8 i bits x y _ _ B0 B1 B2 B3 hv hc rfl rfl s0 s1 s2 s3 b0 b1 b2 b3 haw hbe
  · exact u_all4 i bits x y _ _ B0 B1 B2 B3 hv hc rfl rfl s0 s1 s2 s3 b0 b1 b2 b3 haw hbe
  · exact u_all12 i bits x y _ _ B0 B1 B2 B3 hv hc rfl rfl s0 s1 s2 s3 b0 b1 b2 b3 haw hbe
  · exact u_all2 i bits x y _ _ B0 B1 B2 B3 hv hc rfl rfl s0 s1 s2 s3 b0 b1 b2 b3 haw hbe
  · exact u_all10 i bits x y _ _ B0 B1 B2 B3 hv hc rfl rfl s0 s1 s2 s3 b0 b1 b2 b3 haw hbe
  · exact u_all6 i bits x y _ _ B0 B1 B2 B3 hv hc rfl rfl s0 s1 s2 s3 b0 b1 b2 b3 haw hbe
  · exact u_all14 i bits x y _ _ B0 B1 B2 B3 hv hc rfl rfl s0 s1 s2 s3 b0 b1 b2 b3 haw hbe
  · exact u_all1 i bits x y _ _ B0 B1 B2 B3 hv hc rfl rfl s0 s1 s2 s3 b0 b1 b2 b3 haw hbe
  · exact u_all9 i bits x y _ _ B0 B1 B2 B3 hv hc rfl rfl s0 s1 s2 s3 b0 b1 b2 b3 haw hbe
  · exact u_all5 i bits x y _ _ B0 B1 B2 B3 hv hc rfl rfl s0 s1 s2 s3 b0 b1 b2 b3 haw hbe
  · exact u_all13 i bits x y _ _ B0 B1 B2 B3 hv hc rfl rfl s0 s1 s2 s3 b0 b1 b2 b3 haw hbe
  · exact u_all3 i bits x y _ _ B0 B1 B2 B3 hv hc rfl rfl s0 s1 s2 s3 b0 b1 b2 b3 haw hbe
  · exact u_all11 i bits x y _ _ B0 B1 B2 B3 hv hc rfl rfl s0 s1 s2 s3 b0 b1 b2 b3 haw hbe
  · exact u_all7 i bits x y _ _ B0 B1 B2 B3 hv hc rfl rfl s0 s1 s2 s3 b0 b1 b2 b3 haw hbe
  · exact u_all15 i bits x y _ _ B0 B1 B2 B3 hv hc rfl rfl s0 s1 s2 s3 b0 b1 b2 b3 haw hbe
end Ve
