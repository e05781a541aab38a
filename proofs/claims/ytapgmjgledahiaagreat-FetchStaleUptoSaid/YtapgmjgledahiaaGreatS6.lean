/- What may be: the program's, to the machine. -/
import Derived.Test.YtapgmjgledahiaaGreatS5
set_option linter.all false
set_option linter.unusedSectionVars false
namespace Ve
open Go Ve.Ab
set_option maxHeartbeats 16000000
set_option maxRecDepth 10000
theorem row_place {v a : TWrite} (hv : write1 v = true) (ha : write1 a = true) : decide (0 ≤ rowW v a) = !decide (place v.level v.index < place a.level a.index) := by
  simp only [write1, inR, Bool.and_eq_true, decide_eq_true_eq] at hv ha
  have e1 := wr_id (a := v.level - a.level) (by omega) (by omega)
  have e2 := wr_id (a := v.index - a.index) (by omega) (by omega)
  simp only [wr] at e1 e2
  have h : (0 ≤ rowW v a) ↔ ¬ (place v.level v.index < place a.level a.index) := by
    simp only [rowW, e1, e2, place]
    split <;> omega
  by_cases hp : place v.level v.index < place a.level a.index
  · simp [hp, h]
  · simp [hp, h]
theorem l_writes (i k : Nat) (pf nn : Bool) (xs : List TWrite) (hx : xs.length ≤ BB) (q : Out → St → Option Ans) (Q : V → Hp → Nat → Prop) (u : Dum (fun s q => evC ctx (Lv ctx (i + 2)) (pureOf (Lv ctx (i + 2))) k c107_1 s (restK [0, 5, 6, 7] q))) (w : Dum q) (X1 X2 : Prop)
    (hq1 : ∀ h n, Fin (q (.exit 0) ⟨ofLive [0] [.isl pf nn 3 (xs.map eWr)], h, n⟩) Q = X1) (hq2 : ∀ h n, Fin (q .ret ⟨ofLive [2] [bV false], h, n⟩) Q = X2) : ∀ (suf pre : List TWrite) (kk : Nat) (h : Hp) (n : Nat), xs = pre ++ suf → suf.length < kk → (∀ v, pre.getLast? = some v → write1 v = true) →
    GL 0 [0, 5, 6, 7] (fun s q => evC ctx (Lv ctx (i + 2)) (pureOf (Lv ctx (i + 2))) k c107_1 s (restK [0, 5, 6, 7] q)) q kk ⟨ofLive [0, 5, 6, 7] [.isl pf nn 3 (xs.map eWr), .isl pf nn 3 (xs.map eWr), iV xs.length, iV pre.length], h, n⟩ Q u w =
    boolP (writesGo pre.getLast? suf) X1 X2
  | [], pre, kk, h, n, hxs, hk, hv => by
    obtain ⟨kk, rfl⟩ : ∃ m, kk = m + 1 := ⟨kk - 1, by simp at hk; omega⟩
    have h1 : decide ((pre.length : Int) < xs.length) = false := by simp [hxs]
    have h2 : ∀ o, writesGo o [] = true := fun o => by cases o <;> rfl
    simp +contextual -dsimp -implicitDefEqProofs (maxSteps := 5000000) only [gLs, ↓un_c (c107_1.eq_1), h1, boolP_t, h2, hq1, go_sem, simprocAttr]
  | a :: suf, pre, kk, h, n, hxs, hk, hv => by
    obtain ⟨kk, rfl⟩ : ∃ m, kk = m + 1 := ⟨kk - 1, by simp at hk; omega⟩
    have hl : pre.length < xs.length := by simp [hxs]
    have h2 : ((pre.length : Int) < xs.length) = True := by simpa using hl
    have h3 : (0 ≤ (pre.length : Int)) = True := by simp
    have h4 := wrN pre.length (by omega)
    have hg : xs[pre.length]? = some a := by simp [hxs]
    have ih := fun h n hv => l_writes i k pf nn xs hx q Q u w X1 X2 hq1 hq2 suf (pre ++ [a]) kk h n (by simp [hxs]) (by simpa using hk) hv
    rw [append_len1] at ih
    simp only [List.getLast?_append, List.getLast?_singleton, Option.some_or, Option.some.injEq, forall_eq'] at ih
    rcases List.eq_nil_or_concat pre with rfl | ⟨L, v, rfl⟩
    · simp only [List.length_nil, cast0] at *
      cases c1 : inR a.level 3
      · simp +contextual -dsimp -implicitDefEqProofs (maxSteps := 5000000) only [gLs, ↓un_c (c107_1.eq_1), h2, h3, h4, hg, boolP_f, hq2, writesGo, write1, c1, List.getLast?_nil, go_sem, simprocAttr]
      · cases c2 : inR a.index 3
        · simp +contextual -dsimp -implicitDefEqProofs (maxSteps := 5000000) only [gLs, ↓un_c (c107_1.eq_1), h2, h3, h4, hg, boolP_f, hq2, writesGo, write1, c1, c2, List.getLast?_nil, go_sem, simprocAttr]
        · cases c3 : inR a.val 255
          · simp +contextual -dsimp -implicitDefEqProofs (maxSteps := 5000000) only [gLs, ↓un_c (c107_1.eq_1), h2, h3, h4, hg, boolP_f, hq2, writesGo, write1, c1, c2, c3, List.getLast?_nil, go_sem, simprocAttr]
          · have ih' := fun h n => ih h n (by simp only [write1, c1, c2, c3, Bool.and_self])
            simp only [Nat.zero_add, cast1] at ih'
            simp +contextual -dsimp -implicitDefEqProofs (maxSteps := 5000000) only [gLs, ↓un_c (c107_1.eq_1), h2, h3, h4, hg, writesGo, write1, c1, c2, c3, ih', List.getLast?_nil, go_sem, simprocAttr]
    · have hv1 : write1 v = true := hv v (by simp)
      have hlen : (L.concat v).length = L.length + 1 := by simp
      have hlast : (L.concat v).getLast? = some v := by simp
      rw [hlen] at h2 h3 h4 hg ih
      rw [hlen, hlast]
      have h6 : IntKind.wrap .i64 (((L.length + 1 : Nat) : Int) - 1) = (L.length : Int) := by
        have := wr_id (a := (L.length : Int)) (by omega) (by simp [hlen] at hl; simp only [BB] at hx; omega)
        simp only [wr] at this
        rw [show (((L.length + 1 : Nat) : Int) - 1) = (L.length : Int) by omega, this]
      have h7 : ((L.length : Int) < xs.length) = True := by simp only [eq_iff_iff, iff_true]; rw [hlen] at hl; omega
      have h8 : (0 ≤ (L.length : Int)) = True := by simp
      have h9 : decide (0 < ((L.length + 1 : Nat) : Int)) = true := by simp only [decide_eq_true_eq]; omega
      have hg' : xs[L.length]? = some v := by simp [hxs]
      cases c1 : inR a.level 3
      · simp +contextual -dsimp -implicitDefEqProofs (maxSteps := 5000000) only [gLs, ↓un_c (c107_1.eq_1), h2, h3, h4, hg, boolP_f, hq2, writesGo, write1, c1, go_sem, simprocAttr]
      · cases c2 : inR a.index 3
        · simp +contextual -dsimp -implicitDefEqProofs (maxSteps := 5000000) only [gLs, ↓un_c (c107_1.eq_1), h2, h3, h4, hg, boolP_f, hq2, writesGo, write1, c1, c2, go_sem, simprocAttr]
        · cases c3 : inR a.val 255
          · simp +contextual -dsimp -implicitDefEqProofs (maxSteps := 5000000) only [gLs, ↓un_c (c107_1.eq_1), h2, h3, h4, hg, boolP_f, hq2, writesGo, write1, c1, c2, c3, go_sem, simprocAttr]
          · have ha1 : write1 a = true := by simp only [write1, c1, c2, c3, Bool.and_self]
            have ih' := fun h n => ih h n ha1
            have hr := row_place hv1 ha1
            cases c4 : decide (place v.level v.index < place a.level a.index) <;> rw [c4] at hr <;>
              simp +contextual -dsimp -implicitDefEqProofs (maxSteps := 5000000) only [gLs, ↓un_c (c107_1.eq_1), h2, h3, h4, h6, h7, h8, h9, hg, hg', hr, writesGo, ha1, c1, c2, c3, c4, ih', boolP_f, hq2, go_sem, simprocAttr]
theorem s_writes (i : Nat) (pf nn : Bool) (xs : List TWrite) (hx : xs.length ≤ BB) : pureOf (Lv ctx (i + 3)) 107 [.isl pf nn 3 (xs.map eWr)] = some (bV (writesMay xs)) := by
  refine sp_of rfl (xs.length + 1) (by rfl) ?_
  delta c107
  have h2 := fun q Q u w h1 h2 => l_writes i (xs.length + 1) pf nn xs hx q Q u w (Fin (q (.exit 0) ⟨ofLive [0] [.isl pf nn 3 (xs.map eWr)], emptyHp, 0⟩) Q) (Fin (q .ret ⟨ofLive [2] [bV false], emptyHp, 0⟩) Q) h1 h2 xs [] (xs.length + 1) emptyHp 0 rfl (by omega) (by simp)
  simp only [List.length_nil, Int.natCast_zero, List.getLast?_nil] at h2
  have h5 : decide ((xs.length : Int) ≤ 16) = decide (xs.length ≤ 16) := by apply decide_eq_decide.mpr; omega
  simp +contextual -dsimp -implicitDefEqProofs (maxSteps := 5000000) only [writesMay, h5, go_sem, simprocAttr]
  refine Eq.mpr (h2 _ _ _ _ (fun h n => by simp +contextual -dsimp -implicitDefEqProofs (maxSteps := 5000000) only [go_sem, simprocAttr]) (fun h n => by simp +contextual -dsimp -implicitDefEqProofs (maxSteps := 5000000) only [go_sem, simprocAttr])) ?_
  cases hb : writesGo none xs <;> simp +contextual -dsimp -implicitDefEqProofs (maxSteps := 5000000) only [boolP_t, boolP_f, h5, go_sem, simprocAttr]
end Ve
