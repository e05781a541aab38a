/- What may be: the program's, on. -/
import Derived.Test.YtapgmjgledahiaaGreatS4
set_option linter.all false
set_option linter.unusedSectionVars false
namespace Ve
open Go Ve.Ab
set_option maxHeartbeats 16000000
set_option maxRecDepth 10000
@[go_sem] theorem s_of1 (i : Nat) (p : Bool) (a b c x y z : Int) : pureOf (Lv ctx (i + 1)) 139 [.agg [iV x, iV y, iV z], .ip p [iV a, iV b, iV c] 0] = some (bV (sameR ⟨a, b, c⟩ ⟨x, y, z⟩)) := by
  refine sp_of rfl 0 (by rfl) ?_
  delta c139
  simp +contextual -dsimp -implicitDefEqProofs (maxSteps := 5000000) only [go_sem, simprocAttr]
  all_goals simp_all [sameR]
@[go_sem] theorem s_of (i : Nat) (a b c : Int) : pureOf (Lv ctx (i + 1)) 112 [.agg [iV a, iV b, iV c]] = some (.fn (.func 139) [] [.ip true [iV a, iV b, iV c] 0]) := by
  refine sp_of rfl 0 (by rfl) ?_
  delta c112
  simp +contextual -dsimp -implicitDefEqProofs (maxSteps := 5000000) only [go_sem, simprocAttr]
theorem l_reads (i k : Nat) (pf nn : Bool) (xs : List TRead) (hx : xs.length ≤ BB) (q : Out → St → Option Ans) (Q : V → Hp → Nat → Prop) (u : Dum (fun s q => evC ctx (Lv ctx (i + 3)) (pureOf (Lv ctx (i + 3))) k c109_1 s (restK [0, 8, 9, 10] q))) (w : Dum q) (X1 X2 : Prop)
    (hq1 : ∀ h n, Fin (q (.exit 0) ⟨ofLive [] [], h, n⟩) Q = X1) (hq2 : ∀ h n, Fin (q .ret ⟨ofLive [2] [bV false], h, n⟩) Q = X2) : ∀ (suf pre : List TRead) (kk : Nat) (h : Hp) (n : Nat), xs = pre ++ suf → suf.length < kk →
    GL 0 [0, 8, 9, 10] (fun s q => evC ctx (Lv ctx (i + 3)) (pureOf (Lv ctx (i + 3))) k c109_1 s (restK [0, 8, 9, 10] q)) q kk ⟨ofLive [0, 8, 9, 10] [.isl pf nn 3 (xs.map eR), .isl pf nn 3 (xs.map eR), iV xs.length, iV pre.length], h, n⟩ Q u w =
    boolP (readsGo pre suf) X1 X2
  | [], pre, kk, h, n, hxs, hk => by
    obtain ⟨kk, rfl⟩ : ∃ m, kk = m + 1 := ⟨kk - 1, by simp at hk; omega⟩
    have h1 : decide ((pre.length : Int) < xs.length) = false := by simp [hxs]
    simp +contextual -dsimp -implicitDefEqProofs (maxSteps := 5000000) only [gLs, ↓un_c (c109_1.eq_1), h1, boolP_t, readsGo, hq1, go_sem, simprocAttr]
  | a :: suf, pre, kk, h, n, hxs, hk => by
    obtain ⟨kk, rfl⟩ : ∃ m, kk = m + 1 := ⟨kk - 1, by simp at hk; omega⟩
    have hl : pre.length < xs.length := by simp [hxs]
    have h2 : ((pre.length : Int) < xs.length) = True := by simpa using hl
    have h2' : ((pre.length : Int) ≤ xs.length) = True := by simp; omega
    have h3 : (0 ≤ (pre.length : Int)) = True := by simp
    have h4 := wrN pre.length (by omega)
    have hg : xs[pre.length]? = some a := by simp [hxs]
    have ht : (xs.map eR).take pre.length = pre.map eR := by simp [hxs]
    have ih := fun h n => l_reads i k pf nn xs hx q Q u w X1 X2 hq1 hq2 suf (pre ++ [a]) kk h n (by simp [hxs]) (by simpa using hk)
    rw [append_len1] at ih
    have hcf : pureOf (Lv ctx (i + 3)) 111 [.isl pf nn 3 (pre.map eR), .fn (.func 139) [] [.ip true [iV a.level, iV a.index, iV a.ver] 0]] = some (bV (pre.any (sameR a))) :=
      s_cfRead (i + 1) pf nn pre (sameR a) 139 [.ip true [iV a.level, iV a.index, iV a.ver] 0] (fun _ _ _ _ _ _ => rfl) (fun _ => rfl) (by simp [scrubs, V.scrub]) rfl (fun x _ => by simp only [eR]; exact s_of1 (i + 0) true a.level a.index a.ver x.level x.index x.ver) (by omega)
    cases c1 : inR a.level 3
    · simp +contextual -dsimp -implicitDefEqProofs (maxSteps := 5000000) only [gLs, ↓un_c (c109_1.eq_1), h2, h2', h3, h4, hg, ht, hcf, boolP_f, hq2, readsGo, read1, c1, go_sem, simprocAttr]
    · cases c2 : inR a.index 3
      · simp +contextual -dsimp -implicitDefEqProofs (maxSteps := 5000000) only [gLs, ↓un_c (c109_1.eq_1), h2, h2', h3, h4, hg, ht, hcf, boolP_f, hq2, readsGo, read1, c1, c2, go_sem, simprocAttr]
      · cases c3 : inR a.ver 65535
        · simp +contextual -dsimp -implicitDefEqProofs (maxSteps := 5000000) only [gLs, ↓un_c (c109_1.eq_1), h2, h2', h3, h4, hg, ht, hcf, boolP_f, hq2, readsGo, read1, c1, c2, c3, go_sem, simprocAttr]
        · cases c4 : pre.any (sameR a) <;> simp +contextual -dsimp -implicitDefEqProofs (maxSteps := 5000000) only [gLs, ↓un_c (c109_1.eq_1), h2, h2', h3, h4, hg, ht, hcf, boolP_f, hq2, readsGo, read1, c1, c2, c3, c4, ih, go_sem, simprocAttr]
theorem s_reads (i : Nat) (pf nn : Bool) (xs : List TRead) (hx : xs.length ≤ BB) : pureOf (Lv ctx (i + 4)) 109 [.isl pf nn 3 (xs.map eR)] = some (bV (readsMay xs)) := by
  refine sp_of rfl (xs.length + 1) (by rfl) ?_
  delta c109
  have h2 := fun q Q u w h1 h2 => l_reads i (xs.length + 1) pf nn xs hx q Q u w (Fin (q (.exit 0) ⟨ofLive [] [], emptyHp, 0⟩) Q) (Fin (q .ret ⟨ofLive [2] [bV false], emptyHp, 0⟩) Q) h1 h2 xs [] (xs.length + 1) emptyHp 0 rfl (by omega)
  simp only [List.length_nil, Int.natCast_zero] at h2
  cases h5 : decide (16 < (xs.length : Int))
  · have h6 : decide (xs.length ≤ 16) = true := by simp at h5 ⊢; omega
    simp +contextual -dsimp -implicitDefEqProofs (maxSteps := 5000000) only [readsMay, h5, h6, go_sem, simprocAttr]
    refine Eq.mpr (h2 _ _ _ _ (fun h n => by simp +contextual -dsimp -implicitDefEqProofs (maxSteps := 5000000) only [go_sem, simprocAttr]) (fun h n => by simp +contextual -dsimp -implicitDefEqProofs (maxSteps := 5000000) only [go_sem, simprocAttr])) ?_
    cases hb : readsGo [] xs <;> simp +contextual -dsimp -implicitDefEqProofs (maxSteps := 5000000) only [boolP_t, boolP_f, go_sem, simprocAttr]
  · have h6 : decide (xs.length ≤ 16) = false := by simp at h5 ⊢; omega
    simp +contextual -dsimp -implicitDefEqProofs (maxSteps := 5000000) only [readsMay, h5, h6, go_sem, simprocAttr]
@[go_sem] theorem s_or (i : Nat) (p nn : Bool) (a b : Int) : pureOf (Lv ctx (i + 1)) 132 [.isl p nn 1 [iV a, iV b]] = some (iV (if a = 0 then b else a)) := by
  refine sp_of rfl 3 (by rfl) ?_
  delta c132
  by_cases ha : a = 0
  · subst ha
    by_cases hb : b = 0
    · subst hb
      simp +contextual -dsimp -implicitDefEqProofs (maxSteps := 5000000) only [gLs, ↓un_c (c132_1.eq_1), go_sem, simprocAttr]
    · have hb' : decide (b = 0) = false := by simpa using hb
      simp +contextual -dsimp -implicitDefEqProofs (maxSteps := 5000000) only [gLs, ↓un_c (c132_1.eq_1), hb', go_sem, simprocAttr]
  · have ha' : decide (a = 0) = false := by simpa using ha
    simp +contextual -dsimp -implicitDefEqProofs (maxSteps := 5000000) only [gLs, ↓un_c (c132_1.eq_1), ha', if_neg ha, go_sem, simprocAttr]
def rowW (a b : TWrite) : Int := if IntKind.wrap .i64 (a.level - b.level) = 0 then IntKind.wrap .i64 (a.index - b.index) else IntKind.wrap .i64 (a.level - b.level)
@[go_sem] theorem s_row (i : Nat) (a b c x y z : Int) : pureOf (Lv ctx (i + 2)) 106 [.agg [iV a, iV b, iV c], .agg [iV x, iV y, iV z]] = some (iV (rowW ⟨a, b, c⟩ ⟨x, y, z⟩)) := by
  refine sp_of rfl 0 (by rfl) ?_
  delta c106
  simp +contextual -dsimp -implicitDefEqProofs (maxSteps := 5000000) only [rowW, List.replicate, go_sem, simprocAttr]

theorem s_notSession (i g : Nat) (pf : Bool) (pw : Bool) (row : List V) (off : Nat) (a : TSess) (b : Bool) (hc : CallP tbl g []) (hp : pureOf (Lv ctx i) g [.agg [.ip pw row off], (eS pf) a] = some (bV b)) : pureOf (Lv ctx (i + 1)) 155 [(eS pf) a, .ip pw [.fn (.func g) [.agg [.ip pw row off]] []] 0] = some (bV (!b)) := by
  simp only [eS] at hp ⊢
  refine sp_of rfl 0 (by rfl) ?_
  delta c155
  simp +contextual -dsimp -implicitDefEqProofs (maxSteps := 5000000) only [hc, hp, go_sem, simprocAttr]
theorem s_allSession (i g : Nat) (pf nn : Bool) (pw : Bool) (row : List V) (off : Nat) (xs : List TSess) (p : TSess → Bool) (hc : CallP tbl g []) (hx : xs.length ≤ BB) (hp : ∀ a, a ∈ xs → pureOf (Lv ctx i) g [.agg [.ip pw row off], (eS pf) a] = some (bV (p a))) : pureOf (Lv ctx (i + 4)) 144 [.isl pf nn 17 (xs.map (eS pf)), .fn (.func g) [.agg [.ip pw row off]] []] = some (bV (xs.all p)) := by
  have h1 : pureOf (Lv ctx (i + 3)) 154 [.isl pf nn 17 (xs.map (eS pf)), .fn (.func 155) [] [.ip pw [.fn (.func g) [.agg [.ip pw row off]] []] 0]] = some (bV (!(xs.all p))) := by
    rw [s_cfSession (i + 1) pf nn xs (fun x => !p x) 155 [.ip pw [.fn (.func g) [.agg [.ip pw row off]] []] 0] (fun _ _ _ _ _ _ => rfl) (fun _ => rfl) (by simp [scrubs, V.scrub]) rfl (fun a ha => s_notSession i g pf pw row off a (p a) hc (hp a ha)) hx, any_not]
  refine sp_of rfl 0 (by rfl) ?_
  delta c144
  simp +contextual -dsimp -implicitDefEqProofs (maxSteps := 5000000) only [h1, Bool.not_not, go_sem, simprocAttr]

theorem s_notRead (i g : Nat) (pf : Bool) (pw : Bool) (row : List V) (off : Nat) (a : TRead) (b : Bool) (hc : CallP tbl g []) (hp : pureOf (Lv ctx i) g [.agg [.ip pw row off], eR a] = some (bV b)) : pureOf (Lv ctx (i + 1)) 171 [eR a, .ip pw [.fn (.func g) [.agg [.ip pw row off]] []] 0] = some (bV (!b)) := by
  simp only [eR] at hp ⊢
  refine sp_of rfl 0 (by rfl) ?_
  delta c171
  simp +contextual -dsimp -implicitDefEqProofs (maxSteps := 5000000) only [hc, hp, go_sem, simprocAttr]
theorem s_allRead (i g : Nat) (pf nn : Bool) (pw : Bool) (row : List V) (off : Nat) (xs : List TRead) (p : TRead → Bool) (hc : CallP tbl g []) (hx : xs.length ≤ BB) (hp : ∀ a, a ∈ xs → pureOf (Lv ctx i) g [.agg [.ip pw row off], eR a] = some (bV (p a))) : pureOf (Lv ctx (i + 4)) 157 [.isl pf nn 3 (xs.map eR), .fn (.func g) [.agg [.ip pw row off]] []] = some (bV (xs.all p)) := by
  have h1 : pureOf (Lv ctx (i + 3)) 111 [.isl pf nn 3 (xs.map eR), .fn (.func 171) [] [.ip pw [.fn (.func g) [.agg [.ip pw row off]] []] 0]] = some (bV (!(xs.all p))) := by
    rw [s_cfRead (i + 1) pf nn xs (fun x => !p x) 171 [.ip pw [.fn (.func g) [.agg [.ip pw row off]] []] 0] (fun _ _ _ _ _ _ => rfl) (fun _ => rfl) (by simp [scrubs, V.scrub]) rfl (fun a ha => s_notRead i g pf pw row off a (p a) hc (hp a ha)) hx, any_not]
  refine sp_of rfl 0 (by rfl) ?_
  delta c157
  simp +contextual -dsimp -implicitDefEqProofs (maxSteps := 5000000) only [h1, Bool.not_not, go_sem, simprocAttr]

theorem s_notWrite (i g : Nat) (pf : Bool) (pw : Bool) (row : List V) (off : Nat) (a : TWrite) (b : Bool) (hc : CallP tbl g []) (hp : pureOf (Lv ctx i) g [.agg [.ip pw row off], eWr a] = some (bV b)) : pureOf (Lv ctx (i + 1)) 173 [eWr a, .ip pw [.fn (.func g) [.agg [.ip pw row off]] []] 0] = some (bV (!b)) := by
  simp only [eWr] at hp ⊢
  refine sp_of rfl 0 (by rfl) ?_
  delta c173
  simp +contextual -dsimp -implicitDefEqProofs (maxSteps := 5000000) only [hc, hp, go_sem, simprocAttr]
theorem s_allWrite (i g : Nat) (pf nn : Bool) (pw : Bool) (row : List V) (off : Nat) (xs : List TWrite) (p : TWrite → Bool) (hc : CallP tbl g []) (hx : xs.length ≤ BB) (hp : ∀ a, a ∈ xs → pureOf (Lv ctx i) g [.agg [.ip pw row off], eWr a] = some (bV (p a))) : pureOf (Lv ctx (i + 4)) 159 [.isl pf nn 3 (xs.map eWr), .fn (.func g) [.agg [.ip pw row off]] []] = some (bV (xs.all p)) := by
  have h1 : pureOf (Lv ctx (i + 3)) 172 [.isl pf nn 3 (xs.map eWr), .fn (.func 173) [] [.ip pw [.fn (.func g) [.agg [.ip pw row off]] []] 0]] = some (bV (!(xs.all p))) := by
    rw [s_cfWrite (i + 1) pf nn xs (fun x => !p x) 173 [.ip pw [.fn (.func g) [.agg [.ip pw row off]] []] 0] (fun _ _ _ _ _ _ => rfl) (fun _ => rfl) (by simp [scrubs, V.scrub]) rfl (fun a ha => s_notWrite i g pf pw row off a (p a) hc (hp a ha)) hx, any_not]
  refine sp_of rfl 0 (by rfl) ?_
  delta c159
  simp +contextual -dsimp -implicitDefEqProofs (maxSteps := 5000000) only [h1, Bool.not_not, go_sem, simprocAttr]

theorem s_notInst (i g : Nat) (pf : Bool) (pw : Bool) (row : List V) (off : Nat) (a : TInst) (b : Bool) (hc : CallP tbl g []) (hp : pureOf (Lv ctx i) g [.agg [.ip pw row off], eI a] = some (bV b)) : pureOf (Lv ctx (i + 1)) 175 [eI a, .ip pw [.fn (.func g) [.agg [.ip pw row off]] []] 0] = some (bV (!b)) := by
  simp only [eI] at hp ⊢
  refine sp_of rfl 0 (by rfl) ?_
  delta c175
  simp +contextual -dsimp -implicitDefEqProofs (maxSteps := 5000000) only [hc, hp, go_sem, simprocAttr]
theorem s_allInst (i g : Nat) (pf nn : Bool) (pw : Bool) (row : List V) (off : Nat) (xs : List TInst) (p : TInst → Bool) (hc : CallP tbl g []) (hx : xs.length ≤ BB) (hp : ∀ a, a ∈ xs → pureOf (Lv ctx i) g [.agg [.ip pw row off], eI a] = some (bV (p a))) : pureOf (Lv ctx (i + 4)) 161 [.isl pf nn 4 (xs.map eI), .fn (.func g) [.agg [.ip pw row off]] []] = some (bV (xs.all p)) := by
  have h1 : pureOf (Lv ctx (i + 3)) 174 [.isl pf nn 4 (xs.map eI), .fn (.func 175) [] [.ip pw [.fn (.func g) [.agg [.ip pw row off]] []] 0]] = some (bV (!(xs.all p))) := by
    rw [s_cfInst (i + 1) pf nn xs (fun x => !p x) 175 [.ip pw [.fn (.func g) [.agg [.ip pw row off]] []] 0] (fun _ _ _ _ _ _ => rfl) (fun _ => rfl) (by simp [scrubs, V.scrub]) rfl (fun a ha => s_notInst i g pf pw row off a (p a) hc (hp a ha)) hx, any_not]
  refine sp_of rfl 0 (by rfl) ?_
  delta c161
  simp +contextual -dsimp -implicitDefEqProofs (maxSteps := 5000000) only [h1, Bool.not_not, go_sem, simprocAttr]

theorem s_notEvent (i g : Nat) (pf : Bool) (a : TEvent) (b : Bool) (hc : CallP tbl g []) (hp : pureOf (Lv ctx i) g [eE a] = some (bV b)) : pureOf (Lv ctx (i + 1)) 166 [eE a, .ip true [.fn (.func g) [] []] 0] = some (bV (!b)) := by
  simp only [eE] at hp ⊢
  refine sp_of rfl 0 (by rfl) ?_
  delta c166
  simp +contextual -dsimp -implicitDefEqProofs (maxSteps := 5000000) only [hc, hp, go_sem, simprocAttr]
theorem s_allEvent (i g : Nat) (pf nn : Bool) (xs : List TEvent) (p : TEvent → Bool) (hc : CallP tbl g []) (hx : xs.length ≤ BB) (hp : ∀ a, a ∈ xs → pureOf (Lv ctx i) g [eE a] = some (bV (p a))) : pureOf (Lv ctx (i + 4)) 146 [.isl pf nn 4 (xs.map eE), .fn (.func g) [] []] = some (bV (xs.all p)) := by
  have h1 : pureOf (Lv ctx (i + 3)) 165 [.isl pf nn 4 (xs.map eE), .fn (.func 166) [] [.ip true [.fn (.func g) [] []] 0]] = some (bV (!(xs.all p))) := by
    rw [s_cfEvent (i + 1) pf nn xs (fun x => !p x) 166 [.ip true [.fn (.func g) [] []] 0] (fun _ _ _ _ _ _ => rfl) (fun _ => rfl) (by simp [scrubs, V.scrub]) rfl (fun a ha => s_notEvent i g pf a (p a) hc (hp a ha)) hx, any_not]
  refine sp_of rfl 0 (by rfl) ?_
  delta c146
  simp +contextual -dsimp -implicitDefEqProofs (maxSteps := 5000000) only [h1, Bool.not_not, go_sem, simprocAttr]

@[go_sem] theorem s_lread (i : Nat) (p a b c d na nb nc nd : Bool) (w0 w1 w2 w3 : List TWord) (r : List V) (x y z : Int) : pureOf (Lv ctx (i + 3)) 158 [.agg [.ip p (.isl a na 3 (w0.map eW) :: .isl b nb 3 (w1.map eW) :: .isl c nc 3 (w2.map eW) :: .isl d nd 3 (w3.map eW) :: r) 0], .agg [iV x, iV y, iV z]] = some (bV (wThere ⟨w0, w1, w2, w3⟩ x y)) := by
  refine sp_of rfl 0 (by rfl) ?_
  delta c158
  simp +contextual -dsimp -implicitDefEqProofs (maxSteps := 5000000) only [go_sem, simprocAttr]
@[go_sem] theorem s_lwrite (i : Nat) (p a b c d na nb nc nd : Bool) (w0 w1 w2 w3 : List TWord) (r : List V) (x y z : Int) : pureOf (Lv ctx (i + 3)) 160 [.agg [.ip p (.isl a na 3 (w0.map eW) :: .isl b nb 3 (w1.map eW) :: .isl c nc 3 (w2.map eW) :: .isl d nd 3 (w3.map eW) :: r) 0], .agg [iV x, iV y, iV z]] = some (bV (wThere ⟨w0, w1, w2, w3⟩ x y)) := by
  refine sp_of rfl 0 (by rfl) ?_
  delta c160
  simp +contextual -dsimp -implicitDefEqProofs (maxSteps := 5000000) only [go_sem, simprocAttr]
@[go_sem] theorem s_linst (i : Nat) (p a b c d na nb nc nd : Bool) (w0 w1 w2 w3 : List TWord) (r : List V) (x y z t : Int) : pureOf (Lv ctx (i + 3)) 162 [.agg [.ip p (.isl a na 3 (w0.map eW) :: .isl b nb 3 (w1.map eW) :: .isl c nc 3 (w2.map eW) :: .isl d nd 3 (w3.map eW) :: r) 0], .agg [iV x, iV y, iV z, iV t]] = some (bV (!(wordIs x) || wThere ⟨w0, w1, w2, w3⟩ z t)) := by
  refine sp_of rfl 0 (by rfl) ?_
  delta c162
  simp +contextual -dsimp -implicitDefEqProofs (maxSteps := 5000000) only [go_sem, simprocAttr]
@[go_sem] theorem s_event (i : Nat) (a b c d : Int) : pureOf (Lv ctx (i + 2)) 143 [.agg [iV a, iV b, iV c, iV d]] = some (bV (inR b 3)) := by
  refine sp_of rfl 0 (by rfl) ?_
  delta c143
  simp +contextual -dsimp -implicitDefEqProofs (maxSteps := 5000000) only [go_sem, simprocAttr]
theorem s_start (i : Nat) (pf nn : Bool) (a b c : Int) (xs : List TInst) (hx : xs.length ≤ BB) : pureOf (Lv ctx (i + 5)) 156 [.agg [iV a, iV b, iV c, .isl pf nn 4 (xs.map eI)]] = some (bV (startMay a b c xs)) := by
  have hp := s_prog (i + 0) pf nn xs hx
  refine sp_of rfl 0 (by rfl) ?_
  delta c156
  simp +contextual -dsimp -implicitDefEqProofs (maxSteps := 5000000) only [startMay, hp, go_sem, simprocAttr]
end Ve
