/- What may be: the program's. -/
import Derived.Test.YtapgmjgledahiaaGreatS2
set_option linter.all false
set_option linter.unusedSectionVars false
namespace Ve
open Go Ve.Ab
set_option maxHeartbeats 16000000
set_option maxRecDepth 10000
theorem lab_cases (l : Int) : l = 0 ∨ l = 1 ∨ l = 2 ∨ l = 3 ∨ inR l 3 = false := by
  simp [inR]; omega
theorem inR_0 : inR 0 3 = true := by decide
theorem inR_1 : inR 1 3 = true := by decide
theorem inR_2 : inR 2 3 = true := by decide
theorem inR_3 : inR 3 3 = true := by decide
attribute [go_sem] inR_0 inR_1 inR_2 inR_3
@[go_sem] theorem s_there (i : Nat) (p a b c d na nb nc nd : Bool) (w0 w1 w2 w3 : List TWord) (r : List V) (l x : Int) : pureOf (Lv ctx (i + 2)) 122 [.ip p (.isl a na 3 (w0.map eW) :: .isl b nb 3 (w1.map eW) :: .isl c nc 3 (w2.map eW) :: .isl d nd 3 (w3.map eW) :: r) 0, iV l, iV x] = some (bV (wThere ⟨w0, w1, w2, w3⟩ l x)) := by
  rcases lab_cases l with rfl | rfl | rfl | rfl | h <;> refine sp_of rfl 0 (by rfl) ?_ <;> delta c122
  case inr.inr.inr.inr => simp +contextual -dsimp -implicitDefEqProofs (maxSteps := 5000000) only [wThere, h, go_sem, simprocAttr]
  all_goals simp +contextual -dsimp -implicitDefEqProofs (maxSteps := 5000000) only [wThere, A4.get, go_sem, simprocAttr]
theorem bool_5f {a b c d e : Bool} (h : (a && b && !c && d && e) = false) : (!a || !b || c || !d || !e) = true := by cases a <;> cases b <;> cases c <;> cases d <;> cases e <;> simp_all
theorem bool_5t {a b c d e : Bool} (h : (a && b && !c && d && e) = true) : (!a || !b || c || !d || !e) = false := by cases a <;> cases b <;> cases c <;> cases d <;> cases e <;> simp_all
/-! words -/
@[go_sem] theorem s_oddWord (i : Nat) (a b c : Int) : pureOf (Lv ctx (i + 4)) 147 [.agg [iV a, iV b, iV c]] = some (bV (!wordMay ⟨a, b, c⟩)) := by
  refine sp_of rfl 0 (by rfl) ?_
  delta c147
  simp +contextual -dsimp -implicitDefEqProofs (maxSteps := 5000000) only [go_sem, simprocAttr]
theorem any_not {α : Type} (p : α → Bool) : ∀ l : List α, (l.any fun x => !p x) = !(l.all p)
  | [] => rfl
  | a :: l => by simp [any_not p l]
theorem s_oddWords (i : Nat) (pf nn : Bool) (xs : List TWord) (hx : xs.length ≤ BB) : pureOf (Lv ctx (i + 4 + 2)) 149 [.isl pf nn 3 (xs.map eW), .fn (.func 147) [] []] = some (bV (!(xs.all wordMay))) := by
  rw [s_cfWord (i + 4) pf nn xs (fun w => !wordMay w) 147 [] (fun _ _ _ _ _ _ => rfl) (fun _ => rfl) (by simp [scrubs]) rfl (fun a _ => by simp only [eW]; exact s_oddWord i _ _ _) hx, any_not]
theorem decide_gt4 (n : Nat) : decide (4 < (n : Int)) = !decide (n ≤ 4) := by
  by_cases h : n ≤ 4 <;> simp [h] <;> omega
theorem s_rows (i : Nat) (pf nn : Bool) (xs : List TWord) (hx : decide (4 < (xs.length : Int)) = false) : pureOf (Lv ctx (i + 4 + 2)) 149 [.isl pf nn 3 (xs.map eW), .fn (.func 147) [] []] = some (bV (!(rowMay xs))) := by
  simp at hx
  rw [s_oddWords i pf nn xs (by simp [BB]; omega)]
  simp [rowMay, show xs.length ≤ 4 by omega]
@[go_sem] theorem s_arenaMay (i : Nat) (a b c d na nb nc nd : Bool) (w0 w1 w2 w3 : List TWord) : pureOf (Lv ctx (i + 4 + 3)) 121 [.agg [.isl a na 3 (w0.map eW), .isl b nb 3 (w1.map eW), .isl c nc 3 (w2.map eW), .isl d nd 3 (w3.map eW)]] = some (bV (arenaMay ⟨w0, w1, w2, w3⟩)) := by
  have key : ∀ (w : List TWord), decide (4 < (w.length : Int)) = true → rowMay w = false := by
    intro w h; simp at h; simp [rowMay]; intro; omega
  refine sp_of rfl 5 (by rfl) ?_
  delta c121
  simp +contextual -dsimp -implicitDefEqProofs (maxSteps := 5000000) only [gLs, ↓un_c (c121_1.eq_1), s_rows, go_sem, simprocAttr]
  simp only [arenaMay, A4.all]
  cases h0 : decide (4 < (w0.length : Int)) <;> cases h1 : decide (4 < (w1.length : Int)) <;> cases h2 : decide (4 < (w2.length : Int)) <;> cases h3 : decide (4 < (w3.length : Int)) <;> simp_all

/-! clocks, registers -/
def all4 (m a b c d : Int) : Bool := inR a m && inR b m && inR c m && inR d m
@[go_sem] theorem s_clockMay (i : Nat) (p : Bool) (z0 z1 z2 z3 : V) (a b c d e : Int) (r : List V) : pureOf (Lv ctx (i + 3)) 141 [.ip p (z0 :: z1 :: z2 :: z3 :: iV a :: iV b :: iV c :: iV d :: r) 4, iV e] = some (bV (all4 65535 a b c d && inR e 65535)) := by
  refine sp_of rfl 5 (by rfl) ?_
  delta c141
  simp +contextual -dsimp -implicitDefEqProofs (maxSteps := 5000000) only [gLs, ↓un_c (c141_1.eq_1), all4, go_sem, simprocAttr]
  cases inR a 65535 <;> cases inR b 65535 <;> cases inR c 65535 <;> cases inR d 65535 <;> simp_all
@[go_sem] theorem s_clockMay' (i : Nat) (p : Bool) (a b c d e : Int) : pureOf (Lv ctx (i + 3)) 141 [.ip p [iV a, iV b, iV c, iV d] 0, iV e] = some (bV (all4 65535 a b c d && inR e 65535)) := by
  refine sp_of rfl 5 (by rfl) ?_
  delta c141
  simp +contextual -dsimp -implicitDefEqProofs (maxSteps := 5000000) only [gLs, ↓un_c (c141_1.eq_1), all4, go_sem, simprocAttr]
  cases inR a 65535 <;> cases inR b 65535 <;> cases inR c 65535 <;> cases inR d 65535 <;> simp_all
@[go_sem] theorem s_regsMay (i : Nat) (p : Bool) (z0 z1 z2 z3 z4 z5 : V) (a b c d : Int) (r : List V) : pureOf (Lv ctx (i + 3)) 164 [.ip p (z0 :: z1 :: z2 :: z3 :: z4 :: z5 :: iV a :: iV b :: iV c :: iV d :: r) 6] = some (bV (all4 255 a b c d)) := by
  refine sp_of rfl 5 (by rfl) ?_
  delta c164
  simp +contextual -dsimp -implicitDefEqProofs (maxSteps := 5000000) only [gLs, ↓un_c (c164_1.eq_1), all4, go_sem, simprocAttr]
  cases inR a 255 <;> cases inR b 255 <;> cases inR c 255 <;> cases inR d 255 <;> simp_all
@[go_sem] theorem s_regsMay' (i : Nat) (p : Bool) (a b c d : Int) : pureOf (Lv ctx (i + 3)) 164 [.ip p [iV a, iV b, iV c, iV d] 0] = some (bV (all4 255 a b c d)) := by
  refine sp_of rfl 5 (by rfl) ?_
  delta c164
  simp +contextual -dsimp -implicitDefEqProofs (maxSteps := 5000000) only [gLs, ↓un_c (c164_1.eq_1), all4, go_sem, simprocAttr]
  cases inR a 255 <;> cases inR b 255 <;> cases inR c 255 <;> cases inR d 255 <;> simp_all
def max2 (a b : Int) : Int := if a < b then b else a
theorem max2_eq (a b : Int) : (if a < b then b else a) = max2 a b := (rfl)
@[go_sem] theorem s_max (i : Nat) (p nn : Bool) (a b c d : Int) : pureOf (Lv ctx (i + 1)) 142 [.isl p nn 1 [iV a, iV b, iV c, iV d]] = some (iV (max2 (max2 (max2 a b) c) d)) := by
  refine sp_of rfl 5 (by rfl) ?_
  delta c142
  simp +contextual -dsimp -implicitDefEqProofs (maxSteps := 5000000) only [gLs, ↓un_c (c142_1.eq_1), max2_eq, go_sem, simprocAttr]
/-! programs -/
def boolP (b : Bool) (X1 X2 : Prop) : Prop :=
  match b with
  | true => X1
  | false => X2
theorem boolP_t (X1 X2 : Prop) : boolP true X1 X2 = X1 := (rfl)
theorem boolP_f (X1 X2 : Prop) : boolP false X1 X2 = X2 := (rfl)
theorem l_prog (i k : Nat) (pf nn : Bool) (xs : List TInst) (hx : xs.length ≤ BB) (q : Out → St → Option Ans) (Q : V → Hp → Nat → Prop) (u : Dum (fun s q => evC ctx (Lv ctx (i + 3)) (pureOf (Lv ctx (i + 3))) k c170_1 s (restK [0, 5, 6, 7] q))) (w : Dum q) (X1 X2 : Prop)
    (hq1 : ∀ h n, Fin (q (.exit 0) ⟨ofLive [0] [.isl pf nn 4 (xs.map eI)], h, n⟩) Q = X1) (hq2 : ∀ h n, Fin (q .ret ⟨ofLive [2] [bV false], h, n⟩) Q = X2) : ∀ (suf pre : List TInst) (kk : Nat) (h : Hp) (n : Nat), xs = pre ++ suf → suf.length < kk →
    GL 0 [0, 5, 6, 7] (fun s q => evC ctx (Lv ctx (i + 3)) (pureOf (Lv ctx (i + 3))) k c170_1 s (restK [0, 5, 6, 7] q)) q kk ⟨ofLive [0, 5, 6, 7] [.isl pf nn 4 (xs.map eI), .isl pf nn 4 (xs.map eI), iV xs.length, iV pre.length], h, n⟩ Q u w =
    boolP (progGo xs.length pre.length suf) X1 X2
  | [], pre, kk, h, n, hxs, hk => by
    obtain ⟨kk, rfl⟩ : ∃ m, kk = m + 1 := ⟨kk - 1, by simp at hk; omega⟩
    have h1 : decide ((pre.length : Int) < xs.length) = false := by simp [hxs]
    simp +contextual -dsimp -implicitDefEqProofs (maxSteps := 5000000) only [gLs, ↓un_c (c170_1.eq_1), h1, boolP_t, progGo, hq1, go_sem, simprocAttr]
  | a :: suf, pre, kk, h, n, hxs, hk => by
    obtain ⟨kk, rfl⟩ : ∃ m, kk = m + 1 := ⟨kk - 1, by simp at hk; omega⟩
    have hl : pre.length < xs.length := by simp [hxs]
    have h2 : ((pre.length : Int) < xs.length) = True := by simpa using hl
    have h3 : (0 ≤ (pre.length : Int)) = True := by simp
    have h4 := wrN pre.length (by omega)
    have hg : xs[pre.length]? = some a := by simp [hxs]
    have ih := fun h n => l_prog i k pf nn xs hx q Q u w X1 X2 hq1 hq2 suf (pre ++ [a]) kk h n (by simp [hxs]) (by simpa using hk)
    rw [append_len1] at ih
    have h5 : ((pre.length + 1 : Nat) : Int) = (pre.length : Int) + 1 := by simp
    cases hb : (instMay a && !(decide (a.code = 4) && (decide (a.b ≤ (pre.length : Int)) || decide ((xs.length : Int) < a.b))))
    · have hr : progGo xs.length pre.length (a :: suf) = false := by simp only [progGo, hb, Bool.false_and]
      rw [hr]
      have hb' : (!(instMay a) || (decide (a.code = 4) && (decide (a.b ≤ (pre.length : Int)) || decide ((xs.length : Int) < a.b)))) = true := bool_nf hb
      simp +contextual -dsimp -implicitDefEqProofs (maxSteps := 5000000) only [gLs, ↓un_c (c170_1.eq_1), h2, h3, h4, hg, hb', boolP_f, hq2, go_sem, simprocAttr]
    · have hr : progGo xs.length pre.length (a :: suf) = progGo xs.length ((pre.length + 1 : Nat) : Int) suf := by simp only [progGo, hb, Bool.true_and, h5]
      rw [hr]
      have hb' : (!(instMay a) || (decide (a.code = 4) && (decide (a.b ≤ (pre.length : Int)) || decide ((xs.length : Int) < a.b)))) = false := bool_nt hb
      simp +contextual -dsimp -implicitDefEqProofs (maxSteps := 5000000) only [gLs, ↓un_c (c170_1.eq_1), h2, h3, h4, hg, hb', ih, go_sem, simprocAttr]
theorem s_prog (i : Nat) (pf nn : Bool) (xs : List TInst) (hx : xs.length ≤ BB) : pureOf (Lv ctx (i + 4)) 170 [.isl pf nn 4 (xs.map eI)] = some (bV (progMay xs)) := by
  refine sp_of rfl (xs.length + 1) (by rfl) ?_
  delta c170
  have h2 := fun q Q u w h1 h2 => l_prog i (xs.length + 1) pf nn xs hx q Q u w (Fin (q (.exit 0) ⟨ofLive [0] [.isl pf nn 4 (xs.map eI)], emptyHp, 0⟩) Q) (Fin (q .ret ⟨ofLive [2] [bV false], emptyHp, 0⟩) Q) h1 h2 xs [] (xs.length + 1) emptyHp 0 rfl (by omega)
  simp only [List.length_nil, Int.natCast_zero] at h2
  have h5 : decide ((xs.length : Int) ≤ 16) = decide (xs.length ≤ 16) := by apply decide_eq_decide.mpr; omega
  simp +contextual -dsimp -implicitDefEqProofs (maxSteps := 5000000) only [progMay, h5, go_sem, simprocAttr]
  refine Eq.mpr (h2 _ _ _ _ (fun h n => by simp +contextual -dsimp -implicitDefEqProofs (maxSteps := 5000000) only [go_sem, simprocAttr]) (fun h n => by simp +contextual -dsimp -implicitDefEqProofs (maxSteps := 5000000) only [go_sem, simprocAttr])) ?_
  cases hb : progGo xs.length 0 xs <;> simp +contextual -dsimp -implicitDefEqProofs (maxSteps := 5000000) only [boolP_t, boolP_f, h5, go_sem, simprocAttr]
end Ve
