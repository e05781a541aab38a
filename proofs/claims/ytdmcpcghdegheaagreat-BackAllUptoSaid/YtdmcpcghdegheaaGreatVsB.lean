/- What may be: the program's, on. -/
import Derived.Test.YtdmcpcghdegheaaGreatVsA
set_option linter.all false
set_option linter.unusedSectionVars false
namespace Ve
open Go Ve.Ab
set_option maxRecDepth 10000
set_option linter.unusedSimpArgs false
set_option linter.unusedVariables false
@[go_sem] theorem s_of1 (i : Nat) (p : Bool) (a b c x y z : Int) : pureOf (Lv ctx (i + 1)) 167 [.agg [iV x, iV y, iV z], .ip p [iV a, iV b, iV c] 0] = some (bV (sameR ⟨a, b, c⟩ ⟨x, y, z⟩)) := by
  refine sp_of rfl 0 (by rfl) ?_
  delta c167
  simp (config := { contextual := true, dsimp := false, implicitDefEqProofs := false, maxSteps := 5000000 }) only [go_sem, Nat.reduceEqDiff, Nat.reduceAdd, Nat.reduceLeDiff, Nat.reduceMul, Nat.reduceLT, Nat.reduceBEq, Int.reduceLT, Int.reduceLE, Int.reduceToNat, Int.reduceAdd, Int.reduceSub, Int.reduceEq, Int.reduceNeg, ↓reduceIte]
  all_goals simp_all [sameR]
@[go_sem] theorem s_of (i : Nat) (a b c : Int) : pureOf (Lv ctx (i + 1)) 155 [.agg [iV a, iV b, iV c]] = some (.fn (.func 167) [] [.ip true [iV a, iV b, iV c] 0]) := by
  refine sp_of rfl 0 (by rfl) ?_
  delta c155
  simp (config := { contextual := true, dsimp := false, implicitDefEqProofs := false, maxSteps := 5000000 }) only [go_sem, Nat.reduceEqDiff, Nat.reduceAdd, Nat.reduceLeDiff, Nat.reduceMul, Nat.reduceLT, Nat.reduceBEq, Int.reduceLT, Int.reduceLE, Int.reduceToNat, Int.reduceAdd, Int.reduceSub, Int.reduceEq, Int.reduceNeg, ↓reduceIte]
theorem l_reads (i k : Nat) (pf nn : Bool) (xs : List TRead) (hx : xs.length ≤ BB) (q : Out → St → Option Ans) (Q : V → Hp → Nat → Prop) (u : Dum (fun s q => evC ctx (Lv ctx (i + 3)) (pureOf (Lv ctx (i + 3))) k c134_1 s (restK [0, 8, 9, 10] q))) (w : Dum q) (X1 X2 : Prop)
    (hq1 : ∀ h n, Fin (q (.exit 0) ⟨ofLive [] [], h, n⟩) Q = X1) (hq2 : ∀ h n, Fin (q .ret ⟨ofLive [2] [bV false], h, n⟩) Q = X2) : ∀ (suf pre : List TRead) (kk : Nat) (h : Hp) (n : Nat), xs = pre ++ suf → suf.length < kk →
    GL 0 [0, 8, 9, 10] (fun s q => evC ctx (Lv ctx (i + 3)) (pureOf (Lv ctx (i + 3))) k c134_1 s (restK [0, 8, 9, 10] q)) q kk ⟨ofLive [0, 8, 9, 10] [.isl pf nn 3 (xs.map eR), .isl pf nn 3 (xs.map eR), iV xs.length, iV pre.length], h, n⟩ Q u w =
    boolP (readsGo pre suf) X1 X2
  | [], pre, kk, h, n, hxs, hk => by
    obtain ⟨kk, rfl⟩ : ∃ m, kk = m + 1 := ⟨kk - 1, by simp at hk; omega⟩
    have h1 : decide ((pre.length : Int) < xs.length) = false := by simp [hxs]
    simp (config := { contextual := true, dsimp := false, implicitDefEqProofs := false, maxSteps := 5000000 }) only [gLs, ↓un_c (c134_1.eq_1), h1, boolP_t, readsGo, hq1, go_sem, Nat.reduceEqDiff, Nat.reduceAdd, Nat.reduceLeDiff, Nat.reduceMul, Nat.reduceLT, Nat.reduceBEq, Int.reduceLT, Int.reduceLE, Int.reduceToNat, Int.reduceAdd, Int.reduceSub, Int.reduceEq, Int.reduceNeg, ↓reduceIte]
  | a :: suf, pre, kk, h, n, hxs, hk => by
    obtain ⟨kk, rfl⟩ : ∃ m, kk = m + 1 := ⟨kk - 1, by simp at hk; omega⟩
    have hl : pre.length < xs.length := by simp [hxs]
    have h2 : ((pre.length : Int) < xs.length) = True := by simpa using hl
    have h2' : ((pre.length : Int) ≤ xs.length) = True := by simp; omega
    have h3 : (0 ≤ (pre.length : Int)) = True := by simp
    have h4 := wrN pre.length (by omega)
    have hg : xs[pre.length]? = some a := by simp [hxs]
    have ht : (xs.map eR).take pre.length = pre.map eR := by simp [hxs]
    have ih := fun h n => l_reads i k pf nn xs hx q Q u w X1 X2 hq1 hq2 suf (pre ++ [a]) kk h n (by simp [hxs]) (by simpa using hk)
    rw [append_len1] at ih
    have hcf : pureOf (Lv ctx (i + 3)) 154 [.isl pf nn 3 (pre.map eR), .fn (.func 167) [] [.ip true [iV a.level, iV a.index, iV a.ver] 0]] = some (bV (pre.any (sameR a))) :=
      s_cfRead (i + 1) pf nn pre (sameR a) 167 [.ip true [iV a.level, iV a.index, iV a.ver] 0] (fun _ _ _ _ _ _ => rfl) (fun _ => rfl) (by simp [scrubs, V.scrub]) rfl (fun x _ => by simp only [eR]; exact s_of1 (i + 0) true a.level a.index a.ver x.level x.index x.ver) (by omega)
    cases c1 : inR a.level 3
    · simp (config := { contextual := true, dsimp := false, implicitDefEqProofs := false, maxSteps := 5000000 }) only [gLs, ↓un_c (c134_1.eq_1), h2, h2', h3, h4, hg, ht, hcf, boolP_f, hq2, readsGo, read1, c1, go_sem, Nat.reduceEqDiff, Nat.reduceAdd, Nat.reduceLeDiff, Nat.reduceMul, Nat.reduceLT, Nat.reduceBEq, Int.reduceLT, Int.reduceLE, Int.reduceToNat, Int.reduceAdd, Int.reduceSub, Int.reduceEq, Int.reduceNeg, ↓reduceIte]
    · cases c2 : inR a.index 3
      · simp (config := { contextual := true, dsimp := false, implicitDefEqProofs := false, maxSteps := 5000000 }) only [gLs, ↓un_c (c134_1.eq_1), h2, h2', h3, h4, hg, ht, hcf, boolP_f, hq2, readsGo, read1, c1, c2, go_sem, Nat.reduceEqDiff, Nat.reduceAdd, Nat.reduceLeDiff, Nat.reduceMul, Nat.reduceLT, Nat.reduceBEq, Int.reduceLT, Int.reduceLE, Int.reduceToNat, Int.reduceAdd, Int.reduceSub, Int.reduceEq, Int.reduceNeg, ↓reduceIte]
      · cases c3 : inR a.ver 65535
        · simp (config := { contextual := true, dsimp := false, implicitDefEqProofs := false, maxSteps := 5000000 }) only [gLs, ↓un_c (c134_1.eq_1), h2, h2', h3, h4, hg, ht, hcf, boolP_f, hq2, readsGo, read1, c1, c2, c3, go_sem, Nat.reduceEqDiff, Nat.reduceAdd, Nat.reduceLeDiff, Nat.reduceMul, Nat.reduceLT, Nat.reduceBEq, Int.reduceLT, Int.reduceLE, Int.reduceToNat, Int.reduceAdd, Int.reduceSub, Int.reduceEq, Int.reduceNeg, ↓reduceIte]
        · cases c4 : pre.any (sameR a) <;> simp (config := { contextual := true, dsimp := false, implicitDefEqProofs := false, maxSteps := 5000000 }) only [gLs, ↓un_c (c134_1.eq_1), h2, h2', h3, h4, hg, ht, hcf, boolP_f, hq2, readsGo, read1, c1, c2, c3, c4, ih, go_sem, Nat.reduceEqDiff, Nat.reduceAdd, Nat.reduceLeDiff, Nat.reduceMul, Nat.reduceLT, Nat.reduceBEq, Int.reduceLT, Int.reduceLE, Int.reduceToNat, Int.reduceAdd, Int.reduceSub, Int.reduceEq, Int.reduceNeg, ↓reduceIte]
theorem s_reads (i : Nat) (pf nn : Bool) (xs : List TRead) (hx : xs.length ≤ BB) : pureOf (Lv ctx (i + 4)) 134 [.isl pf nn 3 (xs.map eR)] = some (bV (readsMay xs)) := by
  refine sp_of rfl (xs.length + 1) (by rfl) ?_
  delta c134
  have h2 := fun q Q u w h1 h2 => l_reads i (xs.length + 1) pf nn xs hx q Q u w (Fin (q (.exit 0) ⟨ofLive [] [], emptyHp, 0⟩) Q) (Fin (q .ret ⟨ofLive [2] [bV false], emptyHp, 0⟩) Q) h1 h2 xs [] (xs.length + 1) emptyHp 0 rfl (by omega)
  simp only [List.length_nil, Int.natCast_zero] at h2
  cases h5 : decide (16 < (xs.length : Int))
  · have h6 : decide (xs.length ≤ 16) = true := by simp at h5 ⊢; omega
    simp (config := { contextual := true, dsimp := false, implicitDefEqProofs := false, maxSteps := 5000000 }) only [readsMay, h5, h6, go_sem, Nat.reduceEqDiff, Nat.reduceAdd, Nat.reduceLeDiff, Nat.reduceMul, Nat.reduceLT, Nat.reduceBEq, Int.reduceLT, Int.reduceLE, Int.reduceToNat, Int.reduceAdd, Int.reduceSub, Int.reduceEq, Int.reduceNeg, ↓reduceIte]
    refine Eq.mpr (h2 _ _ _ _ (fun h n => by simp (config := { contextual := true, dsimp := false, implicitDefEqProofs := false, maxSteps := 5000000 }) only [go_sem, Nat.reduceEqDiff, Nat.reduceAdd, Nat.reduceLeDiff, Nat.reduceMul, Nat.reduceLT, Nat.reduceBEq, Int.reduceLT, Int.reduceLE, Int.reduceToNat, Int.reduceAdd, Int.reduceSub, Int.reduceEq, Int.reduceNeg, ↓reduceIte]) (fun h n => by simp (config := { contextual := true, dsimp := false, implicitDefEqProofs := false, maxSteps := 5000000 }) only [go_sem, Nat.reduceEqDiff, Nat.reduceAdd, Nat.reduceLeDiff, Nat.reduceMul, Nat.reduceLT, Nat.reduceBEq, Int.reduceLT, Int.reduceLE, Int.reduceToNat, Int.reduceAdd, Int.reduceSub, Int.reduceEq, Int.reduceNeg, ↓reduceIte])) ?_
    cases hb : readsGo [] xs <;> simp (config := { contextual := true, dsimp := false, implicitDefEqProofs := false, maxSteps := 5000000 }) only [boolP_t, boolP_f, go_sem, Nat.reduceEqDiff, Nat.reduceAdd, Nat.reduceLeDiff, Nat.reduceMul, Nat.reduceLT, Nat.reduceBEq, Int.reduceLT, Int.reduceLE, Int.reduceToNat, Int.reduceAdd, Int.reduceSub, Int.reduceEq, Int.reduceNeg, ↓reduceIte]
  · have h6 : decide (xs.length ≤ 16) = false := by simp at h5 ⊢; omega
    simp (config := { contextual := true, dsimp := false, implicitDefEqProofs := false, maxSteps := 5000000 }) only [readsMay, h5, h6, go_sem, Nat.reduceEqDiff, Nat.reduceAdd, Nat.reduceLeDiff, Nat.reduceMul, Nat.reduceLT, Nat.reduceBEq, Int.reduceLT, Int.reduceLE, Int.reduceToNat, Int.reduceAdd, Int.reduceSub, Int.reduceEq, Int.reduceNeg, ↓reduceIte]
@[go_sem] theorem s_or (i : Nat) (p nn : Bool) (a b : Int) : pureOf (Lv ctx (i + 1)) 168 [.isl p nn 1 [iV a, iV b]] = some (iV (if a = 0 then b else a)) := by
  refine sp_of rfl 3 (by rfl) ?_
  delta c168
  by_cases ha : a = 0
  · subst ha
    by_cases hb : b = 0
    · subst hb
      simp (config := { contextual := true, dsimp := false, implicitDefEqProofs := false, maxSteps := 5000000 }) only [gLs, ↓un_c (c168_1.eq_1), go_sem, Nat.reduceEqDiff, Nat.reduceAdd, Nat.reduceLeDiff, Nat.reduceMul, Nat.reduceLT, Nat.reduceBEq, Int.reduceLT, Int.reduceLE, Int.reduceToNat, Int.reduceAdd, Int.reduceSub, Int.reduceEq, Int.reduceNeg, ↓reduceIte]
    · have hb' : decide (b = 0) = false := by simpa using hb
      simp (config := { contextual := true, dsimp := false, implicitDefEqProofs := false, maxSteps := 5000000 }) only [gLs, ↓un_c (c168_1.eq_1), hb', go_sem, Nat.reduceEqDiff, Nat.reduceAdd, Nat.reduceLeDiff, Nat.reduceMul, Nat.reduceLT, Nat.reduceBEq, Int.reduceLT, Int.reduceLE, Int.reduceToNat, Int.reduceAdd, Int.reduceSub, Int.reduceEq, Int.reduceNeg, ↓reduceIte]
  · have ha' : decide (a = 0) = false := by simpa using ha
    simp (config := { contextual := true, dsimp := false, implicitDefEqProofs := false, maxSteps := 5000000 }) only [gLs, ↓un_c (c168_1.eq_1), ha', if_neg ha, go_sem, Nat.reduceEqDiff, Nat.reduceAdd, Nat.reduceLeDiff, Nat.reduceMul, Nat.reduceLT, Nat.reduceBEq, Int.reduceLT, Int.reduceLE, Int.reduceToNat, Int.reduceAdd, Int.reduceSub, Int.reduceEq, Int.reduceNeg, ↓reduceIte]
def rowW (a b : TWrite) : Int := if IntKind.wrap .i64 (a.level - b.level) = 0 then IntKind.wrap .i64 (a.index - b.index) else IntKind.wrap .i64 (a.level - b.level)
@[go_sem] theorem s_row (i : Nat) (a b c x y z : Int) : pureOf (Lv ctx (i + 2)) 156 [.agg [iV a, iV b, iV c], .agg [iV x, iV y, iV z]] = some (iV (rowW ⟨a, b, c⟩ ⟨x, y, z⟩)) := by
  refine sp_of rfl 0 (by rfl) ?_
  delta c156
  simp (config := { contextual := true, dsimp := false, implicitDefEqProofs := false, maxSteps := 5000000 }) only [rowW, List.replicate, go_sem, Nat.reduceEqDiff, Nat.reduceAdd, Nat.reduceLeDiff, Nat.reduceMul, Nat.reduceLT, Nat.reduceBEq, Int.reduceLT, Int.reduceLE, Int.reduceToNat, Int.reduceAdd, Int.reduceSub, Int.reduceEq, Int.reduceNeg, ↓reduceIte]

theorem s_notSession (i g : Nat) (pf : Bool) (pw : Bool) (row : List V) (off : Nat) (a : TSess) (b : Bool) (hc : CallP tbl g []) (hp : pureOf (Lv ctx i) g [.agg [.ip pw row off], (eS pf) a] = some (bV b)) : pureOf (Lv ctx (i + 1)) 132 [(eS pf) a, .ip pw [.fn (.func g) [.agg [.ip pw row off]] []] 0] = some (bV (!b)) := by
  simp only [eS] at hp ⊢
  refine sp_of rfl 0 (by rfl) ?_
  delta c132
  simp (config := { contextual := true, dsimp := false, implicitDefEqProofs := false, maxSteps := 5000000 }) only [hc, hp, go_sem, Nat.reduceEqDiff, Nat.reduceAdd, Nat.reduceLeDiff, Nat.reduceMul, Nat.reduceLT, Nat.reduceBEq, Int.reduceLT, Int.reduceLE, Int.reduceToNat, Int.reduceAdd, Int.reduceSub, Int.reduceEq, Int.reduceNeg, ↓reduceIte]
theorem s_allSession (i g : Nat) (pf nn : Bool) (pw : Bool) (row : List V) (off : Nat) (xs : List TSess) (p : TSess → Bool) (hc : CallP tbl g []) (hx : xs.length ≤ BB) (hp : ∀ a, a ∈ xs → pureOf (Lv ctx i) g [.agg [.ip pw row off], (eS pf) a] = some (bV (p a))) : pureOf (Lv ctx (i + 4)) 109 [.isl pf nn 17 (xs.map (eS pf)), .fn (.func g) [.agg [.ip pw row off]] []] = some (bV (xs.all p)) := by
  have h1 : pureOf (Lv ctx (i + 3)) 131 [.isl pf nn 17 (xs.map (eS pf)), .fn (.func 132) [] [.ip pw [.fn (.func g) [.agg [.ip pw row off]] []] 0]] = some (bV (!(xs.all p))) := by
    rw [s_cfSession (i + 1) pf nn xs (fun x => !p x) 132 [.ip pw [.fn (.func g) [.agg [.ip pw row off]] []] 0] (fun _ _ _ _ _ _ => rfl) (fun _ => rfl) (by simp [scrubs, V.scrub]) rfl (fun a ha => s_notSession i g pf pw row off a (p a) hc (hp a ha)) hx, any_not]
  refine sp_of rfl 0 (by rfl) ?_
  delta c109
  simp (config := { contextual := true, dsimp := false, implicitDefEqProofs := false, maxSteps := 5000000 }) only [h1, Bool.not_not, go_sem, Nat.reduceEqDiff, Nat.reduceAdd, Nat.reduceLeDiff, Nat.reduceMul, Nat.reduceLT, Nat.reduceBEq, Int.reduceLT, Int.reduceLE, Int.reduceToNat, Int.reduceAdd, Int.reduceSub, Int.reduceEq, Int.reduceNeg, ↓reduceIte]

theorem s_notRead (i g : Nat) (pf : Bool) (pw : Bool) (row : List V) (off : Nat) (a : TRead) (b : Bool) (hc : CallP tbl g []) (hp : pureOf (Lv ctx i) g [.agg [.ip pw row off], eR a] = some (bV b)) : pureOf (Lv ctx (i + 1)) 157 [eR a, .ip pw [.fn (.func g) [.agg [.ip pw row off]] []] 0] = some (bV (!b)) := by
  simp only [eR] at hp ⊢
  refine sp_of rfl 0 (by rfl) ?_
  delta c157
  simp (config := { contextual := true, dsimp := false, implicitDefEqProofs := false, maxSteps := 5000000 }) only [hc, hp, go_sem, Nat.reduceEqDiff, Nat.reduceAdd, Nat.reduceLeDiff, Nat.reduceMul, Nat.reduceLT, Nat.reduceBEq, Int.reduceLT, Int.reduceLE, Int.reduceToNat, Int.reduceAdd, Int.reduceSub, Int.reduceEq, Int.reduceNeg, ↓reduceIte]
theorem s_allRead (i g : Nat) (pf nn : Bool) (pw : Bool) (row : List V) (off : Nat) (xs : List TRead) (p : TRead → Bool) (hc : CallP tbl g []) (hx : xs.length ≤ BB) (hp : ∀ a, a ∈ xs → pureOf (Lv ctx i) g [.agg [.ip pw row off], eR a] = some (bV (p a))) : pureOf (Lv ctx (i + 4)) 136 [.isl pf nn 3 (xs.map eR), .fn (.func g) [.agg [.ip pw row off]] []] = some (bV (xs.all p)) := by
  have h1 : pureOf (Lv ctx (i + 3)) 154 [.isl pf nn 3 (xs.map eR), .fn (.func 157) [] [.ip pw [.fn (.func g) [.agg [.ip pw row off]] []] 0]] = some (bV (!(xs.all p))) := by
    rw [s_cfRead (i + 1) pf nn xs (fun x => !p x) 157 [.ip pw [.fn (.func g) [.agg [.ip pw row off]] []] 0] (fun _ _ _ _ _ _ => rfl) (fun _ => rfl) (by simp [scrubs, V.scrub]) rfl (fun a ha => s_notRead i g pf pw row off a (p a) hc (hp a ha)) hx, any_not]
  refine sp_of rfl 0 (by rfl) ?_
  delta c136
  simp (config := { contextual := true, dsimp := false, implicitDefEqProofs := false, maxSteps := 5000000 }) only [h1, Bool.not_not, go_sem, Nat.reduceEqDiff, Nat.reduceAdd, Nat.reduceLeDiff, Nat.reduceMul, Nat.reduceLT, Nat.reduceBEq, Int.reduceLT, Int.reduceLE, Int.reduceToNat, Int.reduceAdd, Int.reduceSub, Int.reduceEq, Int.reduceNeg, ↓reduceIte]

theorem s_notWrite (i g : Nat) (pf : Bool) (pw : Bool) (row : List V) (off : Nat) (a : TWrite) (b : Bool) (hc : CallP tbl g []) (hp : pureOf (Lv ctx i) g [.agg [.ip pw row off], eWr a] = some (bV b)) : pureOf (Lv ctx (i + 1)) 160 [eWr a, .ip pw [.fn (.func g) [.agg [.ip pw row off]] []] 0] = some (bV (!b)) := by
  simp only [eWr] at hp ⊢
  refine sp_of rfl 0 (by rfl) ?_
  delta c160
  simp (config := { contextual := true, dsimp := false, implicitDefEqProofs := false, maxSteps := 5000000 }) only [hc, hp, go_sem, Nat.reduceEqDiff, Nat.reduceAdd, Nat.reduceLeDiff, Nat.reduceMul, Nat.reduceLT, Nat.reduceBEq, Int.reduceLT, Int.reduceLE, Int.reduceToNat, Int.reduceAdd, Int.reduceSub, Int.reduceEq, Int.reduceNeg, ↓reduceIte]
theorem s_allWrite (i g : Nat) (pf nn : Bool) (pw : Bool) (row : List V) (off : Nat) (xs : List TWrite) (p : TWrite → Bool) (hc : CallP tbl g []) (hx : xs.length ≤ BB) (hp : ∀ a, a ∈ xs → pureOf (Lv ctx i) g [.agg [.ip pw row off], eWr a] = some (bV (p a))) : pureOf (Lv ctx (i + 4)) 138 [.isl pf nn 3 (xs.map eWr), .fn (.func g) [.agg [.ip pw row off]] []] = some (bV (xs.all p)) := by
  have h1 : pureOf (Lv ctx (i + 3)) 159 [.isl pf nn 3 (xs.map eWr), .fn (.func 160) [] [.ip pw [.fn (.func g) [.agg [.ip pw row off]] []] 0]] = some (bV (!(xs.all p))) := by
    rw [s_cfWrite (i + 1) pf nn xs (fun x => !p x) 160 [.ip pw [.fn (.func g) [.agg [.ip pw row off]] []] 0] (fun _ _ _ _ _ _ => rfl) (fun _ => rfl) (by simp [scrubs, V.scrub]) rfl (fun a ha => s_notWrite i g pf pw row off a (p a) hc (hp a ha)) hx, any_not]
  refine sp_of rfl 0 (by rfl) ?_
  delta c138
  simp (config := { contextual := true, dsimp := false, implicitDefEqProofs := false, maxSteps := 5000000 }) only [h1, Bool.not_not, go_sem, Nat.reduceEqDiff, Nat.reduceAdd, Nat.reduceLeDiff, Nat.reduceMul, Nat.reduceLT, Nat.reduceBEq, Int.reduceLT, Int.reduceLE, Int.reduceToNat, Int.reduceAdd, Int.reduceSub, Int.reduceEq, Int.reduceNeg, ↓reduceIte]

theorem s_notInst (i g : Nat) (pf : Bool) (pw : Bool) (row : List V) (off : Nat) (a : TInst) (b : Bool) (hc : CallP tbl g []) (hp : pureOf (Lv ctx i) g [.agg [.ip pw row off], eI a] = some (bV b)) : pureOf (Lv ctx (i + 1)) 162 [eI a, .ip pw [.fn (.func g) [.agg [.ip pw row off]] []] 0] = some (bV (!b)) := by
  simp only [eI] at hp ⊢
  refine sp_of rfl 0 (by rfl) ?_
  delta c162
  simp (config := { contextual := true, dsimp := false, implicitDefEqProofs := false, maxSteps := 5000000 }) only [hc, hp, go_sem, Nat.reduceEqDiff, Nat.reduceAdd, Nat.reduceLeDiff, Nat.reduceMul, Nat.reduceLT, Nat.reduceBEq, Int.reduceLT, Int.reduceLE, Int.reduceToNat, Int.reduceAdd, Int.reduceSub, Int.reduceEq, Int.reduceNeg, ↓reduceIte]
theorem s_allInst (i g : Nat) (pf nn : Bool) (pw : Bool) (row : List V) (off : Nat) (xs : List TInst) (p : TInst → Bool) (hc : CallP tbl g []) (hx : xs.length ≤ BB) (hp : ∀ a, a ∈ xs → pureOf (Lv ctx i) g [.agg [.ip pw row off], eI a] = some (bV (p a))) : pureOf (Lv ctx (i + 4)) 140 [.isl pf nn 4 (xs.map eI), .fn (.func g) [.agg [.ip pw row off]] []] = some (bV (xs.all p)) := by
  have h1 : pureOf (Lv ctx (i + 3)) 161 [.isl pf nn 4 (xs.map eI), .fn (.func 162) [] [.ip pw [.fn (.func g) [.agg [.ip pw row off]] []] 0]] = some (bV (!(xs.all p))) := by
    rw [s_cfInst (i + 1) pf nn xs (fun x => !p x) 162 [.ip pw [.fn (.func g) [.agg [.ip pw row off]] []] 0] (fun _ _ _ _ _ _ => rfl) (fun _ => rfl) (by simp [scrubs, V.scrub]) rfl (fun a ha => s_notInst i g pf pw row off a (p a) hc (hp a ha)) hx, any_not]
  refine sp_of rfl 0 (by rfl) ?_
  delta c140
  simp (config := { contextual := true, dsimp := false, implicitDefEqProofs := false, maxSteps := 5000000 }) only [h1, Bool.not_not, go_sem, Nat.reduceEqDiff, Nat.reduceAdd, Nat.reduceLeDiff, Nat.reduceMul, Nat.reduceLT, Nat.reduceBEq, Int.reduceLT, Int.reduceLE, Int.reduceToNat, Int.reduceAdd, Int.reduceSub, Int.reduceEq, Int.reduceNeg, ↓reduceIte]

theorem s_notEvent (i g : Nat) (pf : Bool) (a : TEvent) (b : Bool) (hc : CallP tbl g []) (hp : pureOf (Lv ctx i) g [eE a] = some (bV b)) : pureOf (Lv ctx (i + 1)) 145 [eE a, .ip true [.fn (.func g) [] []] 0] = some (bV (!b)) := by
  simp only [eE] at hp ⊢
  refine sp_of rfl 0 (by rfl) ?_
  delta c145
  simp (config := { contextual := true, dsimp := false, implicitDefEqProofs := false, maxSteps := 5000000 }) only [hc, hp, go_sem, Nat.reduceEqDiff, Nat.reduceAdd, Nat.reduceLeDiff, Nat.reduceMul, Nat.reduceLT, Nat.reduceBEq, Int.reduceLT, Int.reduceLE, Int.reduceToNat, Int.reduceAdd, Int.reduceSub, Int.reduceEq, Int.reduceNeg, ↓reduceIte]
theorem s_allEvent (i g : Nat) (pf nn : Bool) (xs : List TEvent) (p : TEvent → Bool) (hc : CallP tbl g []) (hx : xs.length ≤ BB) (hp : ∀ a, a ∈ xs → pureOf (Lv ctx i) g [eE a] = some (bV (p a))) : pureOf (Lv ctx (i + 4)) 111 [.isl pf nn 4 (xs.map eE), .fn (.func g) [] []] = some (bV (xs.all p)) := by
  have h1 : pureOf (Lv ctx (i + 3)) 144 [.isl pf nn 4 (xs.map eE), .fn (.func 145) [] [.ip true [.fn (.func g) [] []] 0]] = some (bV (!(xs.all p))) := by
    rw [s_cfEvent (i + 1) pf nn xs (fun x => !p x) 145 [.ip true [.fn (.func g) [] []] 0] (fun _ _ _ _ _ _ => rfl) (fun _ => rfl) (by simp [scrubs, V.scrub]) rfl (fun a ha => s_notEvent i g pf a (p a) hc (hp a ha)) hx, any_not]
  refine sp_of rfl 0 (by rfl) ?_
  delta c111
  simp (config := { contextual := true, dsimp := false, implicitDefEqProofs := false, maxSteps := 5000000 }) only [h1, Bool.not_not, go_sem, Nat.reduceEqDiff, Nat.reduceAdd, Nat.reduceLeDiff, Nat.reduceMul, Nat.reduceLT, Nat.reduceBEq, Int.reduceLT, Int.reduceLE, Int.reduceToNat, Int.reduceAdd, Int.reduceSub, Int.reduceEq, Int.reduceNeg, ↓reduceIte]

@[go_sem] theorem s_lread (i : Nat) (p a b c d na nb nc nd : Bool) (w0 w1 w2 w3 : List TWord) (r : List V) (x y z : Int) : pureOf (Lv ctx (i + 3)) 137 [.agg [.ip p (.isl a na 3 (w0.map eW) :: .isl b nb 3 (w1.map eW) :: .isl c nc 3 (w2.map eW) :: .isl d nd 3 (w3.map eW) :: r) 0], .agg [iV x, iV y, iV z]] = some (bV (wThere ⟨w0, w1, w2, w3⟩ x y)) := by
  refine sp_of rfl 0 (by rfl) ?_
  delta c137
  simp (config := { contextual := true, dsimp := false, implicitDefEqProofs := false, maxSteps := 5000000 }) only [go_sem, Nat.reduceEqDiff, Nat.reduceAdd, Nat.reduceLeDiff, Nat.reduceMul, Nat.reduceLT, Nat.reduceBEq, Int.reduceLT, Int.reduceLE, Int.reduceToNat, Int.reduceAdd, Int.reduceSub, Int.reduceEq, Int.reduceNeg, ↓reduceIte]
@[go_sem] theorem s_lwrite (i : Nat) (p a b c d na nb nc nd : Bool) (w0 w1 w2 w3 : List TWord) (r : List V) (x y z : Int) : pureOf (Lv ctx (i + 3)) 139 [.agg [.ip p (.isl a na 3 (w0.map eW) :: .isl b nb 3 (w1.map eW) :: .isl c nc 3 (w2.map eW) :: .isl d nd 3 (w3.map eW) :: r) 0], .agg [iV x, iV y, iV z]] = some (bV (wThere ⟨w0, w1, w2, w3⟩ x y)) := by
  refine sp_of rfl 0 (by rfl) ?_
  delta c139
  simp (config := { contextual := true, dsimp := false, implicitDefEqProofs := false, maxSteps := 5000000 }) only [go_sem, Nat.reduceEqDiff, Nat.reduceAdd, Nat.reduceLeDiff, Nat.reduceMul, Nat.reduceLT, Nat.reduceBEq, Int.reduceLT, Int.reduceLE, Int.reduceToNat, Int.reduceAdd, Int.reduceSub, Int.reduceEq, Int.reduceNeg, ↓reduceIte]
@[go_sem] theorem s_linst (i : Nat) (p a b c d na nb nc nd : Bool) (w0 w1 w2 w3 : List TWord) (r : List V) (x y z t : Int) : pureOf (Lv ctx (i + 3)) 141 [.agg [.ip p (.isl a na 3 (w0.map eW) :: .isl b nb 3 (w1.map eW) :: .isl c nc 3 (w2.map eW) :: .isl d nd 3 (w3.map eW) :: r) 0], .agg [iV x, iV y, iV z, iV t]] = some (bV (!(wordIs x) || wThere ⟨w0, w1, w2, w3⟩ z t)) := by
  refine sp_of rfl 0 (by rfl) ?_
  delta c141
  simp (config := { contextual := true, dsimp := false, implicitDefEqProofs := false, maxSteps := 5000000 }) only [go_sem, Nat.reduceEqDiff, Nat.reduceAdd, Nat.reduceLeDiff, Nat.reduceMul, Nat.reduceLT, Nat.reduceBEq, Int.reduceLT, Int.reduceLE, Int.reduceToNat, Int.reduceAdd, Int.reduceSub, Int.reduceEq, Int.reduceNeg, ↓reduceIte]
@[go_sem] theorem s_event (i : Nat) (a b c d : Int) : pureOf (Lv ctx (i + 2)) 107 [.agg [iV a, iV b, iV c, iV d]] = some (bV (inR b 3)) := by
  refine sp_of rfl 0 (by rfl) ?_
  delta c107
  simp (config := { contextual := true, dsimp := false, implicitDefEqProofs := false, maxSteps := 5000000 }) only [go_sem, Nat.reduceEqDiff, Nat.reduceAdd, Nat.reduceLeDiff, Nat.reduceMul, Nat.reduceLT, Nat.reduceBEq, Int.reduceLT, Int.reduceLE, Int.reduceToNat, Int.reduceAdd, Int.reduceSub, Int.reduceEq, Int.reduceNeg, ↓reduceIte]
theorem s_start (i : Nat) (pf nn : Bool) (a b c : Int) (xs : List TInst) (hx : xs.length ≤ BB) : pureOf (Lv ctx (i + 5)) 133 [.agg [iV a, iV b, iV c, .isl pf nn 4 (xs.map eI)]] = some (bV (startMay a b c xs)) := by
  have hp := s_prog (i + 0) pf nn xs hx
  refine sp_of rfl 0 (by rfl) ?_
  delta c133
  simp (config := { contextual := true, dsimp := false, implicitDefEqProofs := false, maxSteps := 5000000 }) only [startMay, hp, go_sem, Nat.reduceEqDiff, Nat.reduceAdd, Nat.reduceLeDiff, Nat.reduceMul, Nat.reduceLT, Nat.reduceBEq, Int.reduceLT, Int.reduceLE, Int.reduceToNat, Int.reduceAdd, Int.reduceSub, Int.reduceEq, Int.reduceNeg, ↓reduceIte]
end Ve

/- What may be: the program's, to the machine. -/
namespace Ve
open Go Ve.Ab
set_option maxRecDepth 10000
set_option linter.unusedSimpArgs false
set_option linter.unusedVariables false
theorem row_place {v a : TWrite} (hv : write1 v = true) (ha : write1 a = true) : decide (0 ≤ rowW v a) = !decide (place v.level v.index < place a.level a.index) := by
  simp only [write1, inR, Bool.and_eq_true, decide_eq_true_eq] at hv ha
  have e1 := wr_id (a := v.level - a.level) (by omega) (by omega)
  have e2 := wr_id (a := v.index - a.index) (by omega) (by omega)
  simp only [wr] at e1 e2
  have h : (0 ≤ rowW v a) ↔ ¬ (place v.level v.index < place a.level a.index) := by
    simp only [rowW, e1, e2, place]
    split <;> omega
  by_cases hp : place v.level v.index < place a.level a.index
  · simp [hp, h]
  · simp [hp, h]
theorem l_writes (i k : Nat) (pf nn : Bool) (xs : List TWrite) (hx : xs.length ≤ BB) (q : Out → St → Option Ans) (Q : V → Hp → Nat → Prop) (u : Dum (fun s q => evC ctx (Lv ctx (i + 2)) (pureOf (Lv ctx (i + 2))) k c135_1 s (restK [0, 5, 6, 7] q))) (w : Dum q) (X1 X2 : Prop)
    (hq1 : ∀ h n, Fin (q (.exit 0) ⟨ofLive [0] [.isl pf nn 3 (xs.map eWr)], h, n⟩) Q = X1) (hq2 : ∀ h n, Fin (q .ret ⟨ofLive [2] [bV false], h, n⟩) Q = X2) : ∀ (suf pre : List TWrite) (kk : Nat) (h : Hp) (n : Nat), xs = pre ++ suf → suf.length < kk → (∀ v, pre.getLast? = some v → write1 v = true) →
    GL 0 [0, 5, 6, 7] (fun s q => evC ctx (Lv ctx (i + 2)) (pureOf (Lv ctx (i + 2))) k c135_1 s (restK [0, 5, 6, 7] q)) q kk ⟨ofLive [0, 5, 6, 7] [.isl pf nn 3 (xs.map eWr), .isl pf nn 3 (xs.map eWr), iV xs.length, iV pre.length], h, n⟩ Q u w =
    boolP (writesGo pre.getLast? suf) X1 X2
  | [], pre, kk, h, n, hxs, hk, hv => by
    obtain ⟨kk, rfl⟩ : ∃ m, kk = m + 1 := ⟨kk - 1, by simp at hk; omega⟩
    have h1 : decide ((pre.length : Int) < xs.length) = false := by simp [hxs]
    have h2 : ∀ o, writesGo o [] = true := fun o => by cases o <;> rfl
    simp (config := { contextual := true, dsimp := false, implicitDefEqProofs := false, maxSteps := 5000000 }) only [gLs, ↓un_c (c135_1.eq_1), h1, boolP_t, h2, hq1, go_sem, Nat.reduceEqDiff, Nat.reduceAdd, Nat.reduceLeDiff, Nat.reduceMul, Nat.reduceLT, Nat.reduceBEq, Int.reduceLT, Int.reduceLE, Int.reduceToNat, Int.reduceAdd, Int.reduceSub, Int.reduceEq, Int.reduceNeg, ↓reduceIte]
  | a :: suf, pre, kk, h, n, hxs, hk, hv => by
    obtain ⟨kk, rfl⟩ : ∃ m, kk = m + 1 := ⟨kk - 1, by simp at hk; omega⟩
    have hl : pre.length < xs.length := by simp [hxs]
    have h2 : ((pre.length : Int) < xs.length) = True := by simpa using hl
    have h3 : (0 ≤ (pre.length : Int)) = True := by simp
    have h4 := wrN pre.length (by omega)
    have hg : xs[pre.length]? = some a := by simp [hxs]
    have ih := fun h n hv => l_writes i k pf nn xs hx q Q u w X1 X2 hq1 hq2 suf (pre ++ [a]) kk h n (by simp [hxs]) (by simpa using hk) hv
    rw [append_len1] at ih
    simp only [List.getLast?_append, List.getLast?_singleton, Option.some_or, Option.some.injEq, forall_eq'] at ih
    rcases List.eq_nil_or_concat pre with rfl | ⟨L, v, rfl⟩
    · simp only [List.length_nil, cast0] at *
      cases c1 : inR a.level 3
      · simp (config := { contextual := true, dsimp := false, implicitDefEqProofs := false, maxSteps := 5000000 }) only [gLs, ↓un_c (c135_1.eq_1), h2, h3, h4, hg, boolP_f, hq2, writesGo, write1, c1, List.getLast?_nil, go_sem, Nat.reduceEqDiff, Nat.reduceAdd, Nat.reduceLeDiff, Nat.reduceMul, Nat.reduceLT, Nat.reduceBEq, Int.reduceLT, Int.reduceLE, Int.reduceToNat, Int.reduceAdd, Int.reduceSub, Int.reduceEq, Int.reduceNeg, ↓reduceIte]
      · cases c2 : inR a.index 3
        · simp (config := { contextual := true, dsimp := false, implicitDefEqProofs := false, maxSteps := 5000000 }) only [gLs, ↓un_c (c135_1.eq_1), h2, h3, h4, hg, boolP_f, hq2, writesGo, write1, c1, c2, List.getLast?_nil, go_sem, Nat.reduceEqDiff, Nat.reduceAdd, Nat.reduceLeDiff, Nat.reduceMul, Nat.reduceLT, Nat.reduceBEq, Int.reduceLT, Int.reduceLE, Int.reduceToNat, Int.reduceAdd, Int.reduceSub, Int.reduceEq, Int.reduceNeg, ↓reduceIte]
        · cases c3 : inR a.val 255
          · simp (config := { contextual := true, dsimp := false, implicitDefEqProofs := false, maxSteps := 5000000 }) only [gLs, ↓un_c (c135_1.eq_1), h2, h3, h4, hg, boolP_f, hq2, writesGo, write1, c1, c2, c3, List.getLast?_nil, go_sem, Nat.reduceEqDiff, Nat.reduceAdd, Nat.reduceLeDiff, Nat.reduceMul, Nat.reduceLT, Nat.reduceBEq, Int.reduceLT, Int.reduceLE, Int.reduceToNat, Int.reduceAdd, Int.reduceSub, Int.reduceEq, Int.reduceNeg, ↓reduceIte]
          · have ih' := fun h n => ih h n (by simp only [write1, c1, c2, c3, Bool.and_self])
            simp only [Nat.zero_add, cast1] at ih'
            simp (config := { contextual := true, dsimp := false, implicitDefEqProofs := false, maxSteps := 5000000 }) only [gLs, ↓un_c (c135_1.eq_1), h2, h3, h4, hg, writesGo, write1, c1, c2, c3, ih', List.getLast?_nil, go_sem, Nat.reduceEqDiff, Nat.reduceAdd, Nat.reduceLeDiff, Nat.reduceMul, Nat.reduceLT, Nat.reduceBEq, Int.reduceLT, Int.reduceLE, Int.reduceToNat, Int.reduceAdd, Int.reduceSub, Int.reduceEq, Int.reduceNeg, ↓reduceIte]
    · have hv1 : write1 v = true := hv v (by simp)
      have hlen : (L.concat v).length = L.length + 1 := by simp
      have hlast : (L.concat v).getLast? = some v := by simp
      rw [hlen] at h2 h3 h4 hg ih
      rw [hlen, hlast]
      have h6 : IntKind.wrap .i64 (((L.length + 1 : Nat) : Int) - 1) = (L.length : Int) := by
        have := wr_id (a := (L.length : Int)) (by omega) (by simp [hlen] at hl; simp only [BB] at hx; omega)
        simp only [wr] at this
        rw [show (((L.length + 1 : Nat) : Int) - 1) = (L.length : Int) by omega, this]
      have h7 : ((L.length : Int) < xs.length) = True := by simp only [eq_iff_iff, iff_true]; rw [hlen] at hl; omega
      have h8 : (0 ≤ (L.length : Int)) = True := by simp
      have h9 : decide (0 < ((L.length + 1 : Nat) : Int)) = true := by simp only [decide_eq_true_eq]; omega
      have hg' : xs[L.length]? = some v := by simp [hxs]
      cases c1 : inR a.level 3
      · simp (config := { contextual := true, dsimp := false, implicitDefEqProofs := false, maxSteps := 5000000 }) only [gLs, ↓un_c (c135_1.eq_1), h2, h3, h4, hg, boolP_f, hq2, writesGo, write1, c1, go_sem, Nat.reduceEqDiff, Nat.reduceAdd, Nat.reduceLeDiff, Nat.reduceMul, Nat.reduceLT, Nat.reduceBEq, Int.reduceLT, Int.reduceLE, Int.reduceToNat, Int.reduceAdd, Int.reduceSub, Int.reduceEq, Int.reduceNeg, ↓reduceIte]
      · cases c2 : inR a.index 3
        · simp (config := { contextual := true, dsimp := false, implicitDefEqProofs := false, maxSteps := 5000000 }) only [gLs, ↓un_c (c135_1.eq_1), h2, h3, h4, hg, boolP_f, hq2, writesGo, write1, c1, c2, go_sem, Nat.reduceEqDiff, Nat.reduceAdd, Nat.reduceLeDiff, Nat.reduceMul, Nat.reduceLT, Nat.reduceBEq, Int.reduceLT, Int.reduceLE, Int.reduceToNat, Int.reduceAdd, Int.reduceSub, Int.reduceEq, Int.reduceNeg, ↓reduceIte]
        · cases c3 : inR a.val 255
          · simp (config := { contextual := true, dsimp := false, implicitDefEqProofs := false, maxSteps := 5000000 }) only [gLs, ↓un_c (c135_1.eq_1), h2, h3, h4, hg, boolP_f, hq2, writesGo, write1, c1, c2, c3, go_sem, Nat.reduceEqDiff, Nat.reduceAdd, Nat.reduceLeDiff, Nat.reduceMul, Nat.reduceLT, Nat.reduceBEq, Int.reduceLT, Int.reduceLE, Int.reduceToNat, Int.reduceAdd, Int.reduceSub, Int.reduceEq, Int.reduceNeg, ↓reduceIte]
          · have ha1 : write1 a = true := by simp only [write1, c1, c2, c3, Bool.and_self]
            have ih' := fun h n => ih h n ha1
            have hr := row_place hv1 ha1
            cases c4 : decide (place v.level v.index < place a.level a.index) <;> rw [c4] at hr <;>
              simp (config := { contextual := true, dsimp := false, implicitDefEqProofs := false, maxSteps := 5000000 }) only [gLs, ↓un_c (c135_1.eq_1), h2, h3, h4, h6, h7, h8, h9, hg, hg', hr, writesGo, ha1, c1, c2, c3, c4, ih', boolP_f, hq2, go_sem, Nat.reduceEqDiff, Nat.reduceAdd, Nat.reduceLeDiff, Nat.reduceMul, Nat.reduceLT, Nat.reduceBEq, Int.reduceLT, Int.reduceLE, Int.reduceToNat, Int.reduceAdd, Int.reduceSub, Int.reduceEq, Int.reduceNeg, ↓reduceIte]
theorem s_writes (i : Nat) (pf nn : Bool) (xs : List TWrite) (hx : xs.length ≤ BB) : pureOf (Lv ctx (i + 3)) 135 [.isl pf nn 3 (xs.map eWr)] = some (bV (writesMay xs)) := by
  refine sp_of rfl (xs.length + 1) (by rfl) ?_
  delta c135
  have h2 := fun q Q u w h1 h2 => l_writes i (xs.length + 1) pf nn xs hx q Q u w (Fin (q (.exit 0) ⟨ofLive [0] [.isl pf nn 3 (xs.map eWr)], emptyHp, 0⟩) Q) (Fin (q .ret ⟨ofLive [2] [bV false], emptyHp, 0⟩) Q) h1 h2 xs [] (xs.length + 1) emptyHp 0 rfl (by omega) (by simp)
  simp only [List.length_nil, Int.natCast_zero, List.getLast?_nil] at h2
  have h5 : decide ((xs.length : Int) ≤ 16) = decide (xs.length ≤ 16) := by apply decide_eq_decide.mpr; omega
  simp (config := { contextual := true, dsimp := false, implicitDefEqProofs := false, maxSteps := 5000000 }) only [writesMay, h5, go_sem, Nat.reduceEqDiff, Nat.reduceAdd, Nat.reduceLeDiff, Nat.reduceMul, Nat.reduceLT, Nat.reduceBEq, Int.reduceLT, Int.reduceLE, Int.reduceToNat, Int.reduceAdd, Int.reduceSub, Int.reduceEq, Int.reduceNeg, ↓reduceIte]
  refine Eq.mpr (h2 _ _ _ _ (fun h n => by simp (config := { contextual := true, dsimp := false, implicitDefEqProofs := false, maxSteps := 5000000 }) only [go_sem, Nat.reduceEqDiff, Nat.reduceAdd, Nat.reduceLeDiff, Nat.reduceMul, Nat.reduceLT, Nat.reduceBEq, Int.reduceLT, Int.reduceLE, Int.reduceToNat, Int.reduceAdd, Int.reduceSub, Int.reduceEq, Int.reduceNeg, ↓reduceIte]) (fun h n => by simp (config := { contextual := true, dsimp := false, implicitDefEqProofs := false, maxSteps := 5000000 }) only [go_sem, Nat.reduceEqDiff, Nat.reduceAdd, Nat.reduceLeDiff, Nat.reduceMul, Nat.reduceLT, Nat.reduceBEq, Int.reduceLT, Int.reduceLE, Int.reduceToNat, Int.reduceAdd, Int.reduceSub, Int.reduceEq, Int.reduceNeg, ↓reduceIte])) ?_
  cases hb : writesGo none xs <;> simp (config := { contextual := true, dsimp := false, implicitDefEqProofs := false, maxSteps := 5000000 }) only [boolP_t, boolP_f, h5, go_sem, Nat.reduceEqDiff, Nat.reduceAdd, Nat.reduceLeDiff, Nat.reduceMul, Nat.reduceLT, Nat.reduceBEq, Int.reduceLT, Int.reduceLE, Int.reduceToNat, Int.reduceAdd, Int.reduceSub, Int.reduceEq, Int.reduceNeg, ↓reduceIte]
end Ve

/- What may be: a session, a machine. -/
namespace Ve
open Go Ve.Ab
set_option maxRecDepth 10000
set_option linter.unusedSimpArgs false
set_option linter.unusedVariables false
attribute [go_sem] Bool.and_self
theorem SmS.p {s : TSess} (h : SmS s) : s.prog.length ≤ BB := by have := h.bp; simp only [BB]; omega
theorem SmS.r {s : TSess} (h : SmS s) : s.reads.length ≤ BB := by have := h.br; simp only [BB]; omega
theorem SmS.w {s : TSess} (h : SmS s) : s.writes.length ≤ BB := by have := h.bw; simp only [BB]; omega
theorem SmM.w0 {m : TMach} (h : SmM m) : m.words.a0.length ≤ BB := by have := h.b0; simp only [BB]; omega
theorem SmM.w1 {m : TMach} (h : SmM m) : m.words.a1.length ≤ BB := by have := h.b1; simp only [BB]; omega
theorem SmM.w2 {m : TMach} (h : SmM m) : m.words.a2.length ≤ BB := by have := h.b2; simp only [BB]; omega
theorem SmM.w3 {m : TMach} (h : SmM m) : m.words.a3.length ≤ BB := by have := h.b3; simp only [BB]; omega
theorem SmM.ss {m : TMach} (h : SmM m) : m.sess.length ≤ BB := by have := h.bs; simp only [BB]; omega
theorem SmM.tr {m : TMach} (h : SmM m) : m.trace.length ≤ BB := by have := h.bt; simp only [BB]; omega
theorem s_lsess (i : Nat) (pw a b c d na nb nc nd pf : Bool) (w0 w1 w2 w3 : List TWord) (r : List V) (s : TSess) (hs : SmS s) : pureOf (Lv ctx (i + 9)) 110
    [.agg [.ip pw (.isl a na 3 (w0.map eW) :: .isl b nb 3 (w1.map eW) :: .isl c nc 3 (w2.map eW) :: .isl d nd 3 (w3.map eW) :: r) 0], eS pf s] = some (bV (sessMay ⟨w0, w1, w2, w3⟩ s)) := by
  have h1 : pureOf (Lv ctx (i + 8)) 133 [.agg [iV s.id, iV s.label, iV s.clear, .isl pf false 4 (s.prog.map eI)]] = _ := s_start (i + 3) pf false s.id s.label s.clear s.prog hs.p
  have h2 : pureOf (Lv ctx (i + 8)) 134 [.isl pf false 3 (s.reads.map eR)] = _ := s_reads (i + 4) pf false s.reads hs.r
  have h3 : pureOf (Lv ctx (i + 8)) 135 [.isl pf false 3 (s.writes.map eWr)] = _ := s_writes (i + 5) pf false s.writes hs.w
  have h4 := s_allRead (i + 4) 137 pf false pw (.isl a na 3 (w0.map eW) :: .isl b nb 3 (w1.map eW) :: .isl c nc 3 (w2.map eW) :: .isl d nd 3 (w3.map eW) :: r) 0 s.reads (fun x => wThere ⟨w0, w1, w2, w3⟩ x.level x.index) (fun _ _ _ _ _ _ => rfl) hs.r
    (fun x _ => by simp only [eR]; exact s_lread (i + 1) pw a b c d na nb nc nd w0 w1 w2 w3 r x.level x.index x.ver)
  have h5 := s_allWrite (i + 4) 139 pf false pw (.isl a na 3 (w0.map eW) :: .isl b nb 3 (w1.map eW) :: .isl c nc 3 (w2.map eW) :: .isl d nd 3 (w3.map eW) :: r) 0 s.writes (fun x => wThere ⟨w0, w1, w2, w3⟩ x.level x.index) (fun _ _ _ _ _ _ => rfl) hs.w
    (fun x _ => by simp only [eWr]; exact s_lwrite (i + 1) pw a b c d na nb nc nd w0 w1 w2 w3 r x.level x.index x.val)
  have h6 := s_allInst (i + 4) 141 pf false pw (.isl a na 3 (w0.map eW) :: .isl b nb 3 (w1.map eW) :: .isl c nc 3 (w2.map eW) :: .isl d nd 3 (w3.map eW) :: r) 0 s.prog (fun x => !(wordIs x.code) || wThere ⟨w0, w1, w2, w3⟩ x.b x.c) (fun _ _ _ _ _ _ => rfl) hs.p
    (fun x _ => by simp only [eI]; exact s_linst (i + 1) pw a b c d na nb nc nd w0 w1 w2 w3 r x.code x.a x.b x.c)
  simp only [Nat.add_assoc, Nat.reduceAdd, Nat.reduceSub] at h1 h2 h3 h4 h5 h6
  simp only [eS]
  refine sp_of rfl 0 (by rfl) ?_
  delta c110
  simp (config := { contextual := true, dsimp := false, implicitDefEqProofs := false, maxSteps := 5000000 }) only [h1, h2, h3, h4, h5, h6, go_sem, Nat.reduceEqDiff, Nat.reduceAdd, Nat.reduceLeDiff, Nat.reduceMul, Nat.reduceLT, Nat.reduceBEq, Int.reduceLT, Int.reduceLE, Int.reduceToNat, Int.reduceAdd, Int.reduceSub, Int.reduceEq, Int.reduceNeg, ↓reduceIte]
  simp only [sessMay, readsThere, writesThere, progThere, regsMay, A4.all, all4]
theorem lt_max2 (e a b : Int) : e < max2 a b ↔ e < a ∨ e < b := by
  simp only [max2]; split <;> omega
theorem max_clock (a b c d e : Int) : (all4 65535 a b c d && inR e 65535 && !decide (e < max2 (max2 (max2 a b) c) d)) = (inR e 65535 && all4 e a b c d) := by
  rw [Bool.eq_iff_iff]
  simp only [all4, inR, lt_max2, Bool.and_eq_true, decide_eq_true_eq, Bool.not_eq_true', decide_eq_false_iff_not]
  omega
theorem l_ids (i k : Nat) (p pf : Bool) (m : TMach) (hx : m.sess.length ≤ BB) (q : Out → St → Option Ans) (Q : V → Hp → Nat → Prop) (u : Dum (fun s q => evC ctx (Lv ctx i) (pureOf (Lv ctx i)) k c70_1 s (restK [1, 38, 39] q))) (w : Dum q) : ∀ (suf pre : List TSess) (kk : Nat), m.sess = pre ++ suf → suf.length < kk →
    GL 0 [1, 38, 39] (fun s q => evC ctx (Lv ctx i) (pureOf (Lv ctx i)) k c70_1 s (restK [1, 38, 39] q)) q kk ⟨ofLive [1, 38, 39] [.ip p (cM pf m) 0, iV m.sess.length, iV pre.length], emptyHp, 0⟩ Q u w =
    boolP (idsGo (pre.getLast?.map (·.id)) suf) (Fin (q (.exit 0) ⟨ofLive [1] [.ip p (cM pf m) 0], emptyHp, 0⟩) Q) (Fin (q .ret ⟨ofLive [2] [bV false], emptyHp, 0⟩) Q)
  | [], pre, kk, hxs, hk => by
    obtain ⟨kk, rfl⟩ : ∃ m, kk = m + 1 := ⟨kk - 1, by simp at hk; omega⟩
    have h1 : decide ((pre.length : Int) < m.sess.length) = false := by simp [hxs]
    have h2 : ∀ o, idsGo o [] = true := fun o => by cases o <;> rfl
    simp (config := { contextual := true, dsimp := false, implicitDefEqProofs := false, maxSteps := 5000000 }) only [gLs, ↓un_c (c70_1.eq_1), h1, boolP_t, h2, go_sem, Nat.reduceEqDiff, Nat.reduceAdd, Nat.reduceLeDiff, Nat.reduceMul, Nat.reduceLT, Nat.reduceBEq, Int.reduceLT, Int.reduceLE, Int.reduceToNat, Int.reduceAdd, Int.reduceSub, Int.reduceEq, Int.reduceNeg, ↓reduceIte]
  | a :: suf, pre, kk, hxs, hk => by
    obtain ⟨kk, rfl⟩ : ∃ m, kk = m + 1 := ⟨kk - 1, by simp at hk; omega⟩
    have hl : pre.length < m.sess.length := by simp [hxs]
    have h2 : ((pre.length : Int) < m.sess.length) = True := by simpa using hl
    have h3 : (0 ≤ (pre.length : Int)) = True := by simp
    have h4 := wrN pre.length (by omega)
    have hg : m.sess[pre.length]? = some a := by simp [hxs]
    have ih := l_ids i k p pf m hx q Q u w suf (pre ++ [a]) kk (by simp [hxs]) (by simpa using hk)
    rw [append_len1] at ih
    simp only [List.getLast?_append, List.getLast?_singleton, Option.some_or, Option.map_some] at ih
    rcases List.eq_nil_or_concat pre with rfl | ⟨L, v, rfl⟩
    · simp only [List.length_nil, cast0] at *
      simp only [Nat.zero_add, cast1] at ih
      simp (config := { contextual := true, dsimp := false, implicitDefEqProofs := false, maxSteps := 5000000 }) only [gLs, ↓un_c (c70_1.eq_1), h2, h3, h4, hg, ih, idsGo, List.getLast?_nil, go_sem, Nat.reduceEqDiff, Nat.reduceAdd, Nat.reduceLeDiff, Nat.reduceMul, Nat.reduceLT, Nat.reduceBEq, Int.reduceLT, Int.reduceLE, Int.reduceToNat, Int.reduceAdd, Int.reduceSub, Int.reduceEq, Int.reduceNeg, ↓reduceIte]
    · have hlen : (L.concat v).length = L.length + 1 := by simp
      have hlast : (L.concat v).getLast? = some v := by simp
      rw [hlen] at h2 h3 h4 hg ih
      rw [hlen, hlast]
      have h6 : IntKind.wrap .i64 (((L.length + 1 : Nat) : Int) - 1) = (L.length : Int) := by
        have := wr_id (a := (L.length : Int)) (by omega) (by simp [hlen] at hl; simp only [BB] at hx; omega)
        simp only [wr] at this
        rw [show (((L.length + 1 : Nat) : Int) - 1) = (L.length : Int) by omega, this]
      have h7 : ((L.length : Int) < m.sess.length) = True := by simp only [eq_iff_iff, iff_true]; rw [hlen] at hl; omega
      have h8 : (0 ≤ (L.length : Int)) = True := by simp
      have h9 : decide (0 < ((L.length + 1 : Nat) : Int)) = true := by simp only [decide_eq_true_eq]; omega
      have hg' : m.sess[L.length]? = some v := by simp [hxs]
      by_cases hlt : v.id < a.id
      · have c1 : decide (a.id ≤ v.id) = false := by simp; omega
        have c2 : decide (v.id < a.id) = true := by simp; omega
        simp (config := { contextual := true, dsimp := false, implicitDefEqProofs := false, maxSteps := 5000000 }) only [gLs, ↓un_c (c70_1.eq_1), h2, h3, h4, h6, h7, h8, h9, hg, hg', c1, c2, ih, idsGo, go_sem, Nat.reduceEqDiff, Nat.reduceAdd, Nat.reduceLeDiff, Nat.reduceMul, Nat.reduceLT, Nat.reduceBEq, Int.reduceLT, Int.reduceLE, Int.reduceToNat, Int.reduceAdd, Int.reduceSub, Int.reduceEq, Int.reduceNeg, ↓reduceIte]
      · have c1 : decide (a.id ≤ v.id) = true := by simp; omega
        have c2 : decide (v.id < a.id) = false := by simp; omega
        simp (config := { contextual := true, dsimp := false, implicitDefEqProofs := false, maxSteps := 5000000 }) only [gLs, ↓un_c (c70_1.eq_1), h2, h3, h4, h6, h7, h8, h9, hg, hg', c1, c2, idsGo, boolP_f, go_sem, Nat.reduceEqDiff, Nat.reduceAdd, Nat.reduceLeDiff, Nat.reduceMul, Nat.reduceLT, Nat.reduceBEq, Int.reduceLT, Int.reduceLE, Int.reduceToNat, Int.reduceAdd, Int.reduceSub, Int.reduceEq, Int.reduceNeg, ↓reduceIte]
theorem s_may (i : Nat) (pf : Bool) (m : TMach) (hm : SmM m) : pureOf (Lv ctx (i + 19)) 70 [eM pf m] = some (bV (mayM m)) := by
  have h1 := s_allSession (i + 14) 110 pf false pf (cM pf m) 0 m.sess (sessMay m.words) (fun _ _ _ _ _ _ => rfl) hm.ss
    (fun s hs => s_lsess (i + 5) pf pf pf pf pf false false false false pf m.words.a0 m.words.a1 m.words.a2 m.words.a3 _ s (hm.s s hs))
  have h2 := s_allEvent (i + 14) 107 pf false m.trace (fun e => inR e.label 3) (fun _ _ _ _ _ _ => rfl) hm.tr (fun e _ => by simp only [eE]; exact s_event (i + 12) e.id e.label e.kind e.val)
  simp only [Nat.add_assoc, Nat.reduceAdd] at h1 h2
  refine sp_of rfl (m.sess.length + 1) (by rfl) ?_
  delta c70
  have h3 := fun q Q u w => l_ids (i + 18) (m.sess.length + 1) pf pf m hm.ss q Q u w m.sess [] (m.sess.length + 1) rfl (by omega)
  simp only [List.length_nil, Int.natCast_zero, List.getLast?_nil, Option.map_none] at h3
  have h4 := max_clock m.clocks.a0 m.clocks.a1 m.clocks.a2 m.clocks.a3 m.ceil
  have h5 : decide (4 < (m.sess.length : Int)) = !decide (m.sess.length ≤ 4) := decide_gt4 _
  have h6 : decide (512 < (m.trace.length : Int)) = !decide (m.trace.length ≤ 512) := by
    by_cases h : m.trace.length ≤ 512 <;> simp [h] <;> omega
  have key : mayM m = ((arenaMay m.words && (all4 65535 m.clocks.a0 m.clocks.a1 m.clocks.a2 m.clocks.a3 && inR m.ceil 65535) && !decide (m.ceil < max2 (max2 (max2 m.clocks.a0 m.clocks.a1) m.clocks.a2) m.clocks.a3) && decide (m.sess.length ≤ 4) && decide (m.trace.length ≤ 512)) && idsGo none m.sess && m.sess.all (sessMay m.words) && m.trace.all (fun e => inR e.label 3)) := by
    rw [Bool.and_assoc (arenaMay m.words) (all4 65535 m.clocks.a0 m.clocks.a1 m.clocks.a2 m.clocks.a3 && inR m.ceil 65535), h4]
    simp only [mayM, A4.all, all4, Bool.and_assoc]
  have hb : ∀ a b c d e : Bool, (!a || !b || c || !d || !e) = !(a && b && !c && d && e) := by decide
  have hb' := hb (arenaMay m.words) (all4 65535 m.clocks.a0 m.clocks.a1 m.clocks.a2 m.clocks.a3 && inR m.ceil 65535) (decide (m.ceil < max2 (max2 (max2 m.clocks.a0 m.clocks.a1) m.clocks.a2) m.clocks.a3)) (decide (m.sess.length ≤ 4)) (decide (m.trace.length ≤ 512))
  cases hc : (arenaMay m.words && (all4 65535 m.clocks.a0 m.clocks.a1 m.clocks.a2 m.clocks.a3 && inR m.ceil 65535) && !decide (m.ceil < max2 (max2 (max2 m.clocks.a0 m.clocks.a1) m.clocks.a2) m.clocks.a3) && decide (m.sess.length ≤ 4) && decide (m.trace.length ≤ 512)) <;> rw [hc] at hb' key
  · rw [key]
    simp (config := { contextual := true, dsimp := false, implicitDefEqProofs := false, maxSteps := 5000000 }) only [h1, h2, h3, h5, h6, hb', go_sem, Nat.reduceEqDiff, Nat.reduceAdd, Nat.reduceLeDiff, Nat.reduceMul, Nat.reduceLT, Nat.reduceBEq, Int.reduceLT, Int.reduceLE, Int.reduceToNat, Int.reduceAdd, Int.reduceSub, Int.reduceEq, Int.reduceNeg, ↓reduceIte]
  · rw [key]
    simp (config := { contextual := true, dsimp := false, implicitDefEqProofs := false, maxSteps := 5000000 }) only [h1, h2, h5, h6, hb', go_sem, Nat.reduceEqDiff, Nat.reduceAdd, Nat.reduceLeDiff, Nat.reduceMul, Nat.reduceLT, Nat.reduceBEq, Int.reduceLT, Int.reduceLE, Int.reduceToNat, Int.reduceAdd, Int.reduceSub, Int.reduceEq, Int.reduceNeg, ↓reduceIte]
    refine Eq.mpr (h3 _ _ _ _) ?_
    cases hi : idsGo none m.sess <;> simp (config := { contextual := true, dsimp := false, implicitDefEqProofs := false, maxSteps := 5000000 }) only [boolP_t, boolP_f, h1, h2, go_sem, Nat.reduceEqDiff, Nat.reduceAdd, Nat.reduceLeDiff, Nat.reduceMul, Nat.reduceLT, Nat.reduceBEq, Int.reduceLT, Int.reduceLE, Int.reduceToNat, Int.reduceAdd, Int.reduceSub, Int.reduceEq, Int.reduceNeg, ↓reduceIte]
end Ve

/- Copies: the program's. -/
namespace Ve
open Go Ve.Ab
set_option maxRecDepth 10000
set_option linter.unusedSimpArgs false
set_option linter.unusedVariables false
@[go_sem] theorem s_session (i : Nat) (pf : Bool) (s : TSess) (hs : SmS s) : pureOf (Lv ctx (i + 2)) 74 [eS pf s] = some (oS s) := by
  have h1 : ((s.prog.length : Int) * ((32 : Nat) : Int) ≤ 140737488355328) = True := by simpa using hs.bp
  have h2 : ((s.reads.length : Int) * ((24 : Nat) : Int) ≤ 140737488355328) = True := by simpa using hs.br
  have h3 : ((s.writes.length : Int) * ((24 : Nat) : Int) ≤ 140737488355328) = True := by simpa using hs.bw
  simp only [eS]
  refine sp_of rfl 0 (by rfl) ?_
  delta c74
  cases pf <;> simp (config := { contextual := true, dsimp := false, implicitDefEqProofs := false, maxSteps := 5000000 }) only [h1, h2, h3, go_sem, Nat.reduceEqDiff, Nat.reduceAdd, Nat.reduceLeDiff, Nat.reduceMul, Nat.reduceLT, Nat.reduceBEq, Int.reduceLT, Int.reduceLE, Int.reduceToNat, Int.reduceAdd, Int.reduceSub, Int.reduceEq, Int.reduceNeg, ↓reduceIte]

@[go_sem] theorem s_arenaCopy (i : Nat) (p : Bool) (w0 w1 w2 w3 : List TWord) (h0 : (w0.length : Int) * 24 ≤ 140737488355328) (h1 : (w1.length : Int) * 24 ≤ 140737488355328) (h2 : (w2.length : Int) * 24 ≤ 140737488355328) (h3 : (w3.length : Int) * 24 ≤ 140737488355328) : pureOf (Lv ctx (i + 2)) 71 [.agg [eWs p w0, eWs p w1, eWs p w2, eWs p w3]] = some (.agg [oWs w0, oWs w1, oWs w2, oWs w3]) := by
  have e0 : ((w0.length : Int) * ((24 : Nat) : Int) ≤ 140737488355328) = True := by simpa using h0
  have e1 : ((w1.length : Int) * ((24 : Nat) : Int) ≤ 140737488355328) = True := by simpa using h1
  have e2 : ((w2.length : Int) * ((24 : Nat) : Int) ≤ 140737488355328) = True := by simpa using h2
  have e3 : ((w3.length : Int) * ((24 : Nat) : Int) ≤ 140737488355328) = True := by simpa using h3
  refine sp_of rfl 5 (by rfl) ?_
  delta c71
  cases p <;> simp (config := { contextual := true, dsimp := false, implicitDefEqProofs := false, maxSteps := 5000000 }) only [gLs, ↓un_c (c71_1.eq_1), e0, e1, e2, e3, go_sem, Nat.reduceEqDiff, Nat.reduceAdd, Nat.reduceLeDiff, Nat.reduceMul, Nat.reduceLT, Nat.reduceBEq, Int.reduceLT, Int.reduceLE, Int.reduceToNat, Int.reduceAdd, Int.reduceSub, Int.reduceEq, Int.reduceNeg, ↓reduceIte]
end Ve

/- Copies: the program's machine. -/
namespace Ve
open Go Ve.Ab
set_option maxRecDepth 10000
set_option linter.unusedSimpArgs false
set_option linter.unusedVariables false
abbrev zM : V := .agg [.own 3 [], .own 3 [], .own 3 [], .own 3 [], iV 0, iV 0, iV 0, iV 0, iV 0, .own 17 [], .own 4 []]
abbrev hC (m : TMach) (els : List V) (d6 d7 : Bool) : Hp :=
  pO (pO (pO (pO (pO (pO (pO (pO emptyHp 0 (some ⟨11, [.agg [.sl 2, .sl 3, .sl 4, .sl 5, iV m.clocks.a0, iV m.clocks.a1, iV m.clocks.a2, iV m.clocks.a3, iV m.ceil, .sl 6, .sl 7]], true⟩))
    1 (some ⟨11, [zM], false⟩)) 2 (some ⟨3, m.words.a0.map eW, false⟩)) 3 (some ⟨3, m.words.a1.map eW, false⟩)) 4 (some ⟨3, m.words.a2.map eW, false⟩)) 5 (some ⟨3, m.words.a3.map eW, false⟩))
    6 (some ⟨17, els, d6⟩)) 7 (some ⟨4, m.trace.map eE, d7⟩)
theorem l_mcopy (i k : Nat) (pf : Bool) (m : TMach) (hm : SmM m) (q : Out → St → Option Ans) (Q : V → Hp → Nat → Prop) : ∀ (suf pre : List TSess) (kk : Nat) (d6 : Bool), m.sess = pre ++ suf → suf.length < kk + 1 →
    Fin (evC ctx (Lv ctx (i + 2)) (pureOf (Lv ctx (i + 2))) k c37_1 ⟨ofLive [1, 2, 18, 19, 20] [.ptr 0 0 0, .ptr 1 0 0, .sl 6, iV m.sess.length, iV pre.length], hC m (pre.map oS ++ suf.map (eS pf)) d6 (!pf), 8⟩
      (restK [1, 2, 18, 19, 20] fun o s => thenK (evLoop 8 [1, 2, 18, 19, 20] (fun s q => evC ctx (Lv ctx (i + 2)) (pureOf (Lv ctx (i + 2))) k c37_1 s (restK [1, 2, 18, 19, 20] q)) q kk) q o s)) Q =
    Fin (q (.exit 0) ⟨ofLive [1, 2] [.ptr 0 0 0, .ptr 1 0 0], hC m (m.sess.map oS) (if suf = [] then d6 else true) (!pf), 8⟩) Q
  | [], pre, kk, d6, hxs, hk => by
    have h1 : decide ((pre.length : Int) < m.sess.length) = false := by simp [hxs]
    have h2 : m.sess = pre := by simp [hxs]
    rw [un_c (c37_1.eq_1), if_pos rfl]
    simp (config := { contextual := true, dsimp := false, implicitDefEqProofs := false, maxSteps := 5000000 }) only [h1, go_sem, Nat.reduceEqDiff, Nat.reduceAdd, Nat.reduceLeDiff, Nat.reduceMul, Nat.reduceLT, Nat.reduceBEq, Int.reduceLT, Int.reduceLE, Int.reduceToNat, Int.reduceAdd, Int.reduceSub, Int.reduceEq, Int.reduceNeg, ↓reduceIte]
    rw [h2]
  | a :: suf, pre, kk, d6, hxs, hk => by
    obtain ⟨kk, rfl⟩ : ∃ m, kk = m + 1 := ⟨kk - 1, by simp at hk; omega⟩
    have hl : pre.length < m.sess.length := by simp [hxs]
    have h2 : ((pre.length : Int) < m.sess.length) = True := by simpa using hl
    have h3 : (0 ≤ (pre.length : Int)) = True := by simp
    have h4 := wrN pre.length (by have := hm.ss; omega)
    have hg : (pre.map oS ++ (a :: suf).map (eS pf))[pre.length]? = some (eS pf a) := by simp
    have hlen : (((pre.map oS ++ (a :: suf).map (eS pf)).length : Nat) : Int) = m.sess.length := by simp [hxs]
    have hset : ∀ x, (pre.map oS ++ (a :: suf).map (eS pf)).set pre.length x = pre.map oS ++ x :: suf.map (eS pf) := by intro x; simp [List.set_append]
    have hs := s_session (i + 0) pf a (hm.s a (by simp [hxs]))
    have ih := l_mcopy i k pf m hm q Q suf (pre ++ [a]) kk true (by simp [hxs]) (by simpa using hk)
    simp only [append_len1, List.map_append, List.map_cons, List.map_nil, List.append_assoc, List.cons_append, List.nil_append, oS, ite_self] at ih
    simp only [Nat.add_assoc, Nat.reduceAdd] at hs
    simp only [eS, List.map_cons] at hs hg hlen hset ⊢
    have hif : (if a :: suf = [] then d6 else true) = true := by simp
    rw [un_c (c37_1.eq_1), hif]
    cases pf <;> cases d6 <;> simp (config := { contextual := true, dsimp := false, implicitDefEqProofs := false, maxSteps := 5000000 }) only [h2, h3, h4, hg, hlen, hset, hs, gLs, go_sem, Nat.reduceEqDiff, Nat.reduceAdd, Nat.reduceLeDiff, Nat.reduceMul, Nat.reduceLT, Nat.reduceBEq, Int.reduceLT, Int.reduceLE, Int.reduceToNat, Int.reduceAdd, Int.reduceSub, Int.reduceEq, Int.reduceNeg, ↓reduceIte] <;> exact ih
theorem s_mcopy (i : Nat) (pf : Bool) (m : TMach) (hm : SmM m) : pureOf (Lv ctx (i + 3)) 37 [eM pf m] = some (oM m) := by
  have b0 := hm.b0
  have b1 := hm.b1
  have b2 := hm.b2
  have b3 := hm.b3
  have e4 : ((m.sess.length : Int) * ((184 : Nat) : Int) ≤ 140737488355328) = True := by simpa using hm.bs
  have e5 : ((m.trace.length : Int) * ((32 : Nat) : Int) ≤ 140737488355328) = True := by simpa using hm.bt
  refine sp_of rfl (m.sess.length + 1) (by rfl) ?_
  delta c37
  have hl := fun q Q d6 => l_mcopy i (m.sess.length + 1) pf m hm q Q m.sess [] m.sess.length d6 rfl (by omega)
  simp only [List.length_nil, Int.natCast_zero, List.map_nil, List.nil_append] at hl
  cases pf
  · simp (config := { contextual := true, dsimp := false, implicitDefEqProofs := false, maxSteps := 5000000 }) only [b0, b1, b2, b3, e4, e5, gLs, go_sem, Nat.reduceEqDiff, Nat.reduceAdd, Nat.reduceLeDiff, Nat.reduceMul, Nat.reduceLT, Nat.reduceBEq, Int.reduceLT, Int.reduceLE, Int.reduceToNat, Int.reduceAdd, Int.reduceSub, Int.reduceEq, Int.reduceNeg, ↓reduceIte]
    refine Eq.mpr (hl _ _ true) ?_
    generalize (if m.sess = [] then true else true) = dd
    cases dd <;> simp (config := { contextual := true, dsimp := false, implicitDefEqProofs := false, maxSteps := 5000000 }) only [go_sem, Nat.reduceEqDiff, Nat.reduceAdd, Nat.reduceLeDiff, Nat.reduceMul, Nat.reduceLT, Nat.reduceBEq, Int.reduceLT, Int.reduceLE, Int.reduceToNat, Int.reduceAdd, Int.reduceSub, Int.reduceEq, Int.reduceNeg, ↓reduceIte]
  · simp (config := { contextual := true, dsimp := false, implicitDefEqProofs := false, maxSteps := 5000000 }) only [b0, b1, b2, b3, e4, e5, gLs, go_sem, Nat.reduceEqDiff, Nat.reduceAdd, Nat.reduceLeDiff, Nat.reduceMul, Nat.reduceLT, Nat.reduceBEq, Int.reduceLT, Int.reduceLE, Int.reduceToNat, Int.reduceAdd, Int.reduceSub, Int.reduceEq, Int.reduceNeg, ↓reduceIte]
    refine Eq.mpr (hl _ _ false) ?_
    generalize (if m.sess = [] then false else true) = dd
    cases dd <;> simp (config := { contextual := true, dsimp := false, implicitDefEqProofs := false, maxSteps := 5000000 }) only [go_sem, Nat.reduceEqDiff, Nat.reduceAdd, Nat.reduceLeDiff, Nat.reduceMul, Nat.reduceLT, Nat.reduceBEq, Int.reduceLT, Int.reduceLE, Int.reduceToNat, Int.reduceAdd, Int.reduceSub, Int.reduceEq, Int.reduceNeg, ↓reduceIte]
end Ve
