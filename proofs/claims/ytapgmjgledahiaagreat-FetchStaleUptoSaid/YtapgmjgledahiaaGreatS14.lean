/- What may be: the reference's programs, writes. -/
import Derived.Test.YtapgmjgledahiaaGreatS13
set_option linter.all false
set_option linter.unusedSectionVars false
namespace Ve
open Go Ve.Ab
set_option maxHeartbeats 16000000
set_option maxRecDepth 10000
theorem place_ok (a : TWrite) (ha : write1 a = true) : IntKind.wrap .i64 (IntKind.wrap .i64 (4 * a.level) + a.index) = 4 * a.level + a.index := by
  simp only [write1, inR, Bool.and_eq_true, decide_eq_true_eq] at ha
  have e1 := wr_id (a := 4 * a.level) (by omega) (by omega)
  have e2 := wr_id (a := 4 * a.level + a.index) (by omega) (by omega)
  simp only [wr] at e1 e2
  rw [e1, e2]
@[go_sem] theorem r_place (i : Nat) (l x : Int) : pureOf (Lv ctx (i + 1)) 140 [iV l, iV x] = some (iV (IntKind.wrap .i64 (IntKind.wrap .i64 (4 * l) + x))) := by
  refine sp_of rfl 0 (by rfl) ?_
  delta c140
  simp +contextual -dsimp -implicitDefEqProofs (maxSteps := 5000000) only [go_sem, simprocAttr]
theorem lr_writes (i k : Nat) (pf nn : Bool) (xs : List TWrite) (hx : xs.length ≤ BB) (q : Out → St → Option Ans) (Q : V → Hp → Nat → Prop) (u : Dum (fun s q => evC ctx (Lv ctx (i + 3)) (pureOf (Lv ctx (i + 3))) k c114_1 s (restK [0, 3] q))) (w : Dum q) : ∀ (suf pre : List TWrite) (kk : Nat), xs = pre ++ suf → suf.length < kk → (∀ v, pre.getLast? = some v → write1 v = true) →
    GL 0 [0, 3] (fun s q => evC ctx (Lv ctx (i + 3)) (pureOf (Lv ctx (i + 3))) k c114_1 s (restK [0, 3] q)) q kk ⟨ofLive [0, 3] [.isl pf nn 3 (xs.map eWr), iV pre.length], emptyHp, 0⟩ Q u w =
    boolP (writesGo pre.getLast? suf) (Fin (q (.exit 0) ⟨ofLive [0] [.isl pf nn 3 (xs.map eWr)], emptyHp, 0⟩) Q) (Fin (q .ret ⟨ofLive [2] [bV false], emptyHp, 0⟩) Q)
  | [], pre, kk, hxs, hk, hv => by
    obtain ⟨kk, rfl⟩ : ∃ m, kk = m + 1 := ⟨kk - 1, by simp at hk; omega⟩
    have h1 : decide ((pre.length : Int) < xs.length) = false := by simp [hxs]
    have h2 : ∀ o, writesGo o [] = true := fun o => by cases o <;> rfl
    simp +contextual -dsimp -implicitDefEqProofs (maxSteps := 5000000) only [gLs, ↓un_c (c114_1.eq_1), h1, boolP_t, h2, go_sem, simprocAttr]
  | a :: suf, pre, kk, hxs, hk, hv => by
    obtain ⟨kk, rfl⟩ : ∃ m, kk = m + 1 := ⟨kk - 1, by simp at hk; omega⟩
    have hl : pre.length < xs.length := by simp [hxs]
    have h2 : ((pre.length : Int) < xs.length) = True := by simpa using hl
    have h3 : (0 ≤ (pre.length : Int)) = True := by simp
    have h4 := wrN pre.length (by omega)
    have hg : xs[pre.length]? = some a := by simp [hxs]
    have ih := fun hv => lr_writes i k pf nn xs hx q Q u w suf (pre ++ [a]) kk (by simp [hxs]) (by simpa using hk) hv
    rw [append_len1] at ih
    simp only [List.getLast?_append, List.getLast?_singleton, Option.some_or, Option.some.injEq, forall_eq'] at ih
    rcases List.eq_nil_or_concat pre with rfl | ⟨L, v, rfl⟩
    · simp only [List.length_nil, cast0] at *
      cases c1 : inR a.level 3
      · simp +contextual -dsimp -implicitDefEqProofs (maxSteps := 5000000) only [gLs, ↓un_c (c114_1.eq_1), h2, h3, h4, hg, boolP_f, writesGo, write1, c1, List.getLast?_nil, go_sem, simprocAttr]
      · cases c2 : inR a.index 3
        · simp +contextual -dsimp -implicitDefEqProofs (maxSteps := 5000000) only [gLs, ↓un_c (c114_1.eq_1), h2, h3, h4, hg, boolP_f, writesGo, write1, c1, c2, List.getLast?_nil, go_sem, simprocAttr]
        · cases c3 : inR a.val 255
          · simp +contextual -dsimp -implicitDefEqProofs (maxSteps := 5000000) only [gLs, ↓un_c (c114_1.eq_1), h2, h3, h4, hg, boolP_f, writesGo, write1, c1, c2, c3, List.getLast?_nil, go_sem, simprocAttr]
          · have ih' := ih (by simp only [write1, c1, c2, c3, Bool.and_self])
            simp only [Nat.zero_add, cast1] at ih'
            simp +contextual -dsimp -implicitDefEqProofs (maxSteps := 5000000) only [gLs, ↓un_c (c114_1.eq_1), h2, h3, h4, hg, writesGo, write1, c1, c2, c3, ih', List.getLast?_nil, go_sem, simprocAttr]
    · have hv1 : write1 v = true := hv v (by simp)
      have hlen : (L.concat v).length = L.length + 1 := by simp
      have hlast : (L.concat v).getLast? = some v := by simp
      rw [hlen] at h2 h3 h4 hg ih
      rw [hlen, hlast]
      have h6 : IntKind.wrap .i64 (((L.length + 1 : Nat) : Int) - 1) = (L.length : Int) := by
        have := wr_id (a := (L.length : Int)) (by omega) (by simp [hlen] at hl; simp only [BB] at hx; omega)
        simp only [wr] at this
        rw [show (((L.length + 1 : Nat) : Int) - 1) = (L.length : Int) by omega, this]
      have h7 : ((L.length : Int) < xs.length) = True := by simp only [eq_iff_iff, iff_true]; rw [hlen] at hl; omega
      have h8 : (0 ≤ (L.length : Int)) = True := by simp
      have h9 : decide (0 < ((L.length + 1 : Nat) : Int)) = true := by simp only [decide_eq_true_eq]; omega
      have hg' : xs[L.length]? = some v := by simp [hxs]
      cases c1 : inR a.level 3
      · simp +contextual -dsimp -implicitDefEqProofs (maxSteps := 5000000) only [gLs, ↓un_c (c114_1.eq_1), h2, h3, h4, hg, boolP_f, writesGo, write1, c1, go_sem, simprocAttr]
      · cases c2 : inR a.index 3
        · simp +contextual -dsimp -implicitDefEqProofs (maxSteps := 5000000) only [gLs, ↓un_c (c114_1.eq_1), h2, h3, h4, hg, boolP_f, writesGo, write1, c1, c2, go_sem, simprocAttr]
        · cases c3 : inR a.val 255
          · simp +contextual -dsimp -implicitDefEqProofs (maxSteps := 5000000) only [gLs, ↓un_c (c114_1.eq_1), h2, h3, h4, hg, boolP_f, writesGo, write1, c1, c2, c3, go_sem, simprocAttr]
          · have ha1 : write1 a = true := by simp only [write1, c1, c2, c3, Bool.and_self]
            have ih' := ih ha1
            have hr : decide (4 * a.level + a.index ≤ 4 * v.level + v.index) = !decide (place v.level v.index < place a.level a.index) := by rw [← decide_not]; apply decide_eq_decide.mpr; simp only [place]; omega
            have hpl := place_ok a ha1
            have hpl' := place_ok v hv1
            cases c4 : decide (place v.level v.index < place a.level a.index) <;> rw [c4] at hr <;>
              simp +contextual -dsimp -implicitDefEqProofs (maxSteps := 5000000) only [gLs, ↓un_c (c114_1.eq_1), h2, h3, h4, h6, h7, h8, h9, hg, hg', hr, hpl, hpl', writesGo, ha1, c1, c2, c3, c4, ih', boolP_f, go_sem, simprocAttr]
theorem r_writes (i : Nat) (pf nn : Bool) (xs : List TWrite) (hx : xs.length ≤ BB) : pureOf (Lv ctx (i + 4)) 114 [.isl pf nn 3 (xs.map eWr)] = some (bV (writesMay xs)) := by
  refine sp_of rfl (xs.length + 1) (by rfl) ?_
  delta c114
  have h2 := fun q Q u w => lr_writes i (xs.length + 1) pf nn xs hx q Q u w xs [] (xs.length + 1) rfl (by omega) (by simp)
  simp only [List.length_nil, Int.natCast_zero, List.getLast?_nil] at h2
  have h5 : decide ((xs.length : Int) ≤ 16) = decide (xs.length ≤ 16) := by apply decide_eq_decide.mpr; omega
  simp +contextual -dsimp -implicitDefEqProofs (maxSteps := 5000000) only [writesMay, h5, go_sem, simprocAttr]
  refine Eq.mpr (h2 _ _ _ _) ?_
  cases hb : writesGo none xs <;> simp +contextual -dsimp -implicitDefEqProofs (maxSteps := 5000000) only [boolP_t, boolP_f, h5, go_sem, simprocAttr]
theorem lr_prog (i k : Nat) (pf nn : Bool) (xs : List TInst) (hx : xs.length ≤ BB) (q : Out → St → Option Ans) (Q : V → Hp → Nat → Prop) (u : Dum (fun s q => evC ctx (Lv ctx (i + 3)) (pureOf (Lv ctx (i + 3))) k c152_1 s (restK [0, 3] q))) (w : Dum q) : ∀ (suf pre : List TInst) (kk : Nat), xs = pre ++ suf → suf.length < kk →
    GL 0 [0, 3] (fun s q => evC ctx (Lv ctx (i + 3)) (pureOf (Lv ctx (i + 3))) k c152_1 s (restK [0, 3] q)) q kk ⟨ofLive [0, 3] [.isl pf nn 4 (xs.map eI), iV pre.length], emptyHp, 0⟩ Q u w =
    boolP (progGo xs.length pre.length suf) (Fin (q (.exit 0) ⟨ofLive [0] [.isl pf nn 4 (xs.map eI)], emptyHp, 0⟩) Q) (Fin (q .ret ⟨ofLive [2] [bV false], emptyHp, 0⟩) Q)
  | [], pre, kk, hxs, hk => by
    obtain ⟨kk, rfl⟩ : ∃ m, kk = m + 1 := ⟨kk - 1, by simp at hk; omega⟩
    have h1 : decide ((pre.length : Int) < xs.length) = false := by simp [hxs]
    simp +contextual -dsimp -implicitDefEqProofs (maxSteps := 5000000) only [gLs, ↓un_c (c152_1.eq_1), h1, boolP_t, progGo, go_sem, simprocAttr]
  | a :: suf, pre, kk, hxs, hk => by
    obtain ⟨kk, rfl⟩ : ∃ m, kk = m + 1 := ⟨kk - 1, by simp at hk; omega⟩
    have hl : pre.length < xs.length := by simp [hxs]
    have h2 : ((pre.length : Int) < xs.length) = True := by simpa using hl
    have h3 : (0 ≤ (pre.length : Int)) = True := by simp
    have h4 := wrN pre.length (by omega)
    have hg : xs[pre.length]? = some a := by simp [hxs]
    have ih := lr_prog i k pf nn xs hx q Q u w suf (pre ++ [a]) kk (by simp [hxs]) (by simpa using hk)
    rw [append_len1] at ih
    have h5 : ((pre.length + 1 : Nat) : Int) = (pre.length : Int) + 1 := by simp
    have c5 : decide ((xs.length : Int) < a.b) = decide ((xs.length : Int) < a.b) := rfl
    cases c1 : instMay a
    · simp +contextual -dsimp -implicitDefEqProofs (maxSteps := 5000000) only [gLs, ↓un_c (c152_1.eq_1), h2, h3, h4, hg, boolP_f, progGo, c1, go_sem, simprocAttr]
    · cases c2 : decide (a.code = 4)
      · have hr : progGo xs.length pre.length (a :: suf) = progGo xs.length ((pre.length + 1 : Nat) : Int) suf := by simp only [progGo, c1, c2, h5, Bool.true_and, Bool.false_and, Bool.not_false]
        rw [hr]
        simp +contextual -dsimp -implicitDefEqProofs (maxSteps := 5000000) only [gLs, ↓un_c (c152_1.eq_1), h2, h3, h4, hg, c1, c2, ih, go_sem, simprocAttr]
      · cases c3 : decide (a.b ≤ (pre.length : Int))
        · cases c4 : decide ((xs.length : Int) < a.b)
          · have hr : progGo xs.length pre.length (a :: suf) = progGo xs.length ((pre.length + 1 : Nat) : Int) suf := by simp only [progGo, c1, c2, c3, c4, h5, Bool.true_and, Bool.false_or, Bool.not_false]
            rw [hr]
            simp +contextual -dsimp -implicitDefEqProofs (maxSteps := 5000000) only [gLs, ↓un_c (c152_1.eq_1), h2, h3, h4, hg, c1, c2, c3, c4, ih, go_sem, simprocAttr]
          · have hr : progGo xs.length pre.length (a :: suf) = false := by simp only [progGo, c1, c2, c3, c4, h5, Bool.true_and, Bool.false_or, Bool.not_true, Bool.false_and]
            rw [hr]
            simp +contextual -dsimp -implicitDefEqProofs (maxSteps := 5000000) only [gLs, ↓un_c (c152_1.eq_1), h2, h3, h4, hg, c1, c2, c3, c4, boolP_f, go_sem, simprocAttr]
        · have hr : progGo xs.length pre.length (a :: suf) = false := by simp only [progGo, c1, c2, c3, Bool.true_and, Bool.true_or, Bool.not_true, Bool.false_and]
          rw [hr]
          simp +contextual -dsimp -implicitDefEqProofs (maxSteps := 5000000) only [gLs, ↓un_c (c152_1.eq_1), h2, h3, h4, hg, c1, c2, c3, boolP_f, go_sem, simprocAttr]
theorem r_prog (i : Nat) (pf nn : Bool) (xs : List TInst) (hx : xs.length ≤ BB) : pureOf (Lv ctx (i + 4)) 152 [.isl pf nn 4 (xs.map eI)] = some (bV (progMay xs)) := by
  refine sp_of rfl (xs.length + 1) (by rfl) ?_
  delta c152
  have h2 := fun q Q u w => lr_prog i (xs.length + 1) pf nn xs hx q Q u w xs [] (xs.length + 1) rfl (by omega)
  simp only [List.length_nil, Int.natCast_zero] at h2
  have h5 : decide ((xs.length : Int) ≤ 16) = decide (xs.length ≤ 16) := by apply decide_eq_decide.mpr; omega
  simp +contextual -dsimp -implicitDefEqProofs (maxSteps := 5000000) only [progMay, h5, go_sem, simprocAttr]
  refine Eq.mpr (h2 _ _ _ _) ?_
  cases hb : progGo xs.length 0 xs <;> simp +contextual -dsimp -implicitDefEqProofs (maxSteps := 5000000) only [boolP_t, boolP_f, h5, go_sem, simprocAttr]
theorem r_start (i : Nat) (pf nn : Bool) (a b c : Int) (xs : List TInst) (hx : xs.length ≤ BB) : pureOf (Lv ctx (i + 5)) 128 [.agg [iV a, iV b, iV c, .isl pf nn 4 (xs.map eI)]] = some (bV (startMay a b c xs)) := by
  have hp := r_prog i pf nn xs hx
  refine sp_of rfl 0 (by rfl) ?_
  delta c128
  simp +contextual -dsimp -implicitDefEqProofs (maxSteps := 5000000) only [startMay, hp, go_sem, simprocAttr]
end Ve
