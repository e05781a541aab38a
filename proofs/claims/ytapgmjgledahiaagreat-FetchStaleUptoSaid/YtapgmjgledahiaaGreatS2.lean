/- slices.IndexFunc, slices.ContainsFunc, all. -/
import Derived.Test.YtapgmjgledahiaaGreatS1
set_option linter.all false
set_option linter.unusedSectionVars false
namespace Ve
open Go Ve.Ab
set_option maxHeartbeats 16000000
set_option maxRecDepth 10000
def findGo {α : Type} (p : α → Bool) : Nat → List α → Option Nat
  | _, [] => none
  | j, a :: r => if p a then some j else findGo p (j + 1) r
def idxOf : Option Nat → Int
  | none => -1
  | some j => j
theorem findGo_any {α : Type} (p : α → Bool) : ∀ (l : List α) (j : Nat), decide (0 ≤ idxOf (findGo p j l)) = l.any p
  | [], j => by simp [findGo, idxOf]
  | a :: r, j => by
    simp only [findGo, List.any_cons]
    split
    · rename_i h; simp [h, idxOf]
    · rename_i h; simp [h, findGo_any p r (j + 1)]
theorem wrN (j : Nat) (h : j ≤ BB) : IntKind.wrap .i64 ((j : Int) + 1) = ((j + 1 : Nat) : Int) := by
  have := wr_id (a := (j : Int) + 1) (by omega) (by simp only [BB] at h; omega)
  simp only [wr] at this
  rw [this]; simp
theorem append_len1 {α : Type} (pre : List α) (a : α) : (pre ++ [a]).length = pre.length + 1 := by simp
def optFin (q : Out → St → Option Ans) (Q : V → Hp → Nat → Prop) (s1 : St) (s2 : Nat → St) : Option Nat → Prop
  | none => Fin (q (.exit 0) s1) Q
  | some j => Fin (q .ret (s2 j)) Q
theorem optFin_none (q : Out → St → Option Ans) (Q : V → Hp → Nat → Prop) (s1 : St) (s2 : Nat → St) : optFin q Q s1 s2 none = Fin (q (.exit 0) s1) Q := (rfl)
theorem optFin_some (q : Out → St → Option Ans) (Q : V → Hp → Nat → Prop) (s1 : St) (s2 : Nat → St) (j : Nat) : optFin q Q s1 s2 (some j) = Fin (q .ret (s2 j)) Q := (rfl)


theorem l_ixWord (i k : Nat) (pf nn : Bool) (xs : List TWord) (p : TWord → Bool) (g : Nat) (cap : List V) (hc : CallP tbl g []) (hcap : ∀ d, amMap (reify (d + 1)) cap = .ret cap) (hsc : scrubs 0 cap = cap)
    (hp : ∀ a, a ∈ xs → pureOf (Lv ctx i) g (eW a :: cap) = some (bV (p a))) (hx : xs.length ≤ BB) (q : Out → St → Option Ans) (Q : V → Hp → Nat → Prop) (u : Dum fun s q => evC ctx (Lv ctx i) (pureOf (Lv ctx i)) k c167_1 s (restK [0, 1, 7, 8] q)) (w : Dum q) : ∀ (suf pre : List TWord) (kk : Nat), xs = pre ++ suf → suf.length < kk →
    GL 0 [0, 1, 7, 8] (fun s q => evC ctx (Lv ctx i) (pureOf (Lv ctx i)) k c167_1 s (restK [0, 1, 7, 8] q)) q kk ⟨ofLive [0, 1, 7, 8] [.isl pf nn 3 (xs.map eW), .fn (.func g) [] cap, iV xs.length, iV pre.length], emptyHp, 0⟩ Q u w =
    optFin q Q ⟨ofLive [] [], emptyHp, 0⟩ (fun j => ⟨ofLive [4] [iV j], emptyHp, 0⟩) (findGo p pre.length suf)
  | [], pre, kk, hxs, hk => by
    obtain ⟨kk, rfl⟩ : ∃ m, kk = m + 1 := ⟨kk - 1, by simp at hk; omega⟩
    have h1 : decide ((pre.length : Int) < xs.length) = false := by simp [hxs]
    simp +contextual -dsimp -implicitDefEqProofs (maxSteps := 5000000) only [gLs, ↓un_c (c167_1.eq_1), h1, hcap, hsc, findGo, optFin_none, go_sem, simprocAttr]
  | a :: suf, pre, kk, hxs, hk => by
    obtain ⟨kk, rfl⟩ : ∃ m, kk = m + 1 := ⟨kk - 1, by simp at hk; omega⟩
    have hl : pre.length < xs.length := by simp [hxs]
    have h1 : decide ((pre.length : Int) < xs.length) = true := by simpa using hl
    have h2 : ((pre.length : Int) < xs.length) = True := by simpa using hl
    have h3 : (0 ≤ (pre.length : Int)) = True := by simp
    have h4 := wrN pre.length (by omega)
    have hg : xs[pre.length]? = some a := by simp [hxs]
    have hpa := hp a (by simp [hxs])
    simp only [eW] at hpa
    have ih := l_ixWord i k pf nn xs p g cap hc hcap hsc hp hx q Q u w suf (pre ++ [a]) kk (by simp [hxs]) (by simpa using hk)
    rw [append_len1] at ih
    cases hb : p a <;> rw [hb] at hpa <;> simp +contextual -dsimp -implicitDefEqProofs (maxSteps := 5000000) only [gLs, ↓un_c (c167_1.eq_1), h1, h2, h3, h4, hcap, hsc, findGo, optFin_some, hg, hpa, hb, hc, ih, Int.toNat_natCast, List.getElem?_map, go_sem, simprocAttr]
theorem s_cfWord (i : Nat) (pf nn : Bool) (xs : List TWord) (p : TWord → Bool) (g : Nat) (cap : List V) (hc : CallP tbl g []) (hcap : ∀ d, amMap (reify (d + 1)) cap = .ret cap) (hsc : scrubs 0 cap = cap) (hn : ones cap = true) 
    (hp : ∀ a, a ∈ xs → pureOf (Lv ctx i) g (eW a :: cap) = some (bV (p a))) (hx : xs.length ≤ BB) : pureOf (Lv ctx (i + 2)) 149 [.isl pf nn 3 (xs.map eW), .fn (.func g) [] cap] = some (bV (xs.any p)) := by
  have h1 : pureOf (Lv ctx (i + 1)) 167 [.isl pf nn 3 (xs.map eW), .fn (.func g) [] cap] = some (iV (idxOf (findGo p 0 xs))) := by
    refine sp_of rfl (xs.length + 1) (by rfl) ?_
    delta c167
    have hl := fun q Q u w => l_ixWord i (xs.length + 1) pf nn xs p g cap hc hcap hsc hp hx q Q u w xs [] (xs.length + 1) rfl (by omega)
    simp only [List.length_nil, Int.natCast_zero] at hl
    simp +contextual -dsimp -implicitDefEqProofs (maxSteps := 5000000) only [hl, go_sem, simprocAttr]
    cases findGo p 0 xs <;> simp +contextual -dsimp -implicitDefEqProofs (maxSteps := 5000000) only [optFin_none, optFin_some, idxOf, go_sem, simprocAttr]
  refine sp_of rfl 0 (by rfl) ?_
  delta c149
  simp +contextual -dsimp -implicitDefEqProofs (maxSteps := 5000000) only [h1, hcap, findGo_any, go_sem, simprocAttr]


theorem l_ixSession (i k : Nat) (pf nn : Bool) (xs : List TSess) (p : TSess → Bool) (g : Nat) (cap : List V) (hc : CallP tbl g []) (hcap : ∀ d, amMap (reify (d + 1)) cap = .ret cap) (hsc : scrubs 0 cap = cap)
    (hp : ∀ a, a ∈ xs → pureOf (Lv ctx i) g ((eS pf) a :: cap) = some (bV (p a))) (hx : xs.length ≤ BB) (q : Out → St → Option Ans) (Q : V → Hp → Nat → Prop) (u : Dum fun s q => evC ctx (Lv ctx i) (pureOf (Lv ctx i)) k c169_1 s (restK [0, 1, 7, 8] q)) (w : Dum q) : ∀ (suf pre : List TSess) (kk : Nat), xs = pre ++ suf → suf.length < kk →
    GL 0 [0, 1, 7, 8] (fun s q => evC ctx (Lv ctx i) (pureOf (Lv ctx i)) k c169_1 s (restK [0, 1, 7, 8] q)) q kk ⟨ofLive [0, 1, 7, 8] [.isl pf nn 17 (xs.map (eS pf)), .fn (.func g) [] cap, iV xs.length, iV pre.length], emptyHp, 0⟩ Q u w =
    optFin q Q ⟨ofLive [] [], emptyHp, 0⟩ (fun j => ⟨ofLive [4] [iV j], emptyHp, 0⟩) (findGo p pre.length suf)
  | [], pre, kk, hxs, hk => by
    obtain ⟨kk, rfl⟩ : ∃ m, kk = m + 1 := ⟨kk - 1, by simp at hk; omega⟩
    have h1 : decide ((pre.length : Int) < xs.length) = false := by simp [hxs]
    simp +contextual -dsimp -implicitDefEqProofs (maxSteps := 5000000) only [gLs, ↓un_c (c169_1.eq_1), h1, hcap, hsc, findGo, optFin_none, go_sem, simprocAttr]
  | a :: suf, pre, kk, hxs, hk => by
    obtain ⟨kk, rfl⟩ : ∃ m, kk = m + 1 := ⟨kk - 1, by simp at hk; omega⟩
    have hl : pre.length < xs.length := by simp [hxs]
    have h1 : decide ((pre.length : Int) < xs.length) = true := by simpa using hl
    have h2 : ((pre.length : Int) < xs.length) = True := by simpa using hl
    have h3 : (0 ≤ (pre.length : Int)) = True := by simp
    have h4 := wrN pre.length (by omega)
    have hg : xs[pre.length]? = some a := by simp [hxs]
    have hpa := hp a (by simp [hxs])
    simp only [eS] at hpa
    have ih := l_ixSession i k pf nn xs p g cap hc hcap hsc hp hx q Q u w suf (pre ++ [a]) kk (by simp [hxs]) (by simpa using hk)
    rw [append_len1] at ih
    cases hb : p a <;> rw [hb] at hpa <;> simp +contextual -dsimp -implicitDefEqProofs (maxSteps := 5000000) only [gLs, ↓un_c (c169_1.eq_1), h1, h2, h3, h4, hcap, hsc, findGo, optFin_some, hg, hpa, hb, hc, ih, Int.toNat_natCast, List.getElem?_map, go_sem, simprocAttr]
theorem s_cfSession (i : Nat) (pf nn : Bool) (xs : List TSess) (p : TSess → Bool) (g : Nat) (cap : List V) (hc : CallP tbl g []) (hcap : ∀ d, amMap (reify (d + 1)) cap = .ret cap) (hsc : scrubs 0 cap = cap) (hn : ones cap = true) 
    (hp : ∀ a, a ∈ xs → pureOf (Lv ctx i) g ((eS pf) a :: cap) = some (bV (p a))) (hx : xs.length ≤ BB) : pureOf (Lv ctx (i + 2)) 154 [.isl pf nn 17 (xs.map (eS pf)), .fn (.func g) [] cap] = some (bV (xs.any p)) := by
  have h1 : pureOf (Lv ctx (i + 1)) 169 [.isl pf nn 17 (xs.map (eS pf)), .fn (.func g) [] cap] = some (iV (idxOf (findGo p 0 xs))) := by
    refine sp_of rfl (xs.length + 1) (by rfl) ?_
    delta c169
    have hl := fun q Q u w => l_ixSession i (xs.length + 1) pf nn xs p g cap hc hcap hsc hp hx q Q u w xs [] (xs.length + 1) rfl (by omega)
    simp only [List.length_nil, Int.natCast_zero] at hl
    simp +contextual -dsimp -implicitDefEqProofs (maxSteps := 5000000) only [hl, go_sem, simprocAttr]
    cases findGo p 0 xs <;> simp +contextual -dsimp -implicitDefEqProofs (maxSteps := 5000000) only [optFin_none, optFin_some, idxOf, go_sem, simprocAttr]
  refine sp_of rfl 0 (by rfl) ?_
  delta c154
  simp +contextual -dsimp -implicitDefEqProofs (maxSteps := 5000000) only [h1, hcap, findGo_any, go_sem, simprocAttr]


theorem l_ixEvent (i k : Nat) (pf nn : Bool) (xs : List TEvent) (p : TEvent → Bool) (g : Nat) (cap : List V) (hc : CallP tbl g []) (hcap : ∀ d, amMap (reify (d + 1)) cap = .ret cap) (hsc : scrubs 0 cap = cap)
    (hp : ∀ a, a ∈ xs → pureOf (Lv ctx i) g (eE a :: cap) = some (bV (p a))) (hx : xs.length ≤ BB) (q : Out → St → Option Ans) (Q : V → Hp → Nat → Prop) (u : Dum fun s q => evC ctx (Lv ctx i) (pureOf (Lv ctx i)) k c177_1 s (restK [0, 1, 7, 8] q)) (w : Dum q) : ∀ (suf pre : List TEvent) (kk : Nat), xs = pre ++ suf → suf.length < kk →
    GL 0 [0, 1, 7, 8] (fun s q => evC ctx (Lv ctx i) (pureOf (Lv ctx i)) k c177_1 s (restK [0, 1, 7, 8] q)) q kk ⟨ofLive [0, 1, 7, 8] [.isl pf nn 4 (xs.map eE), .fn (.func g) [] cap, iV xs.length, iV pre.length], emptyHp, 0⟩ Q u w =
    optFin q Q ⟨ofLive [] [], emptyHp, 0⟩ (fun j => ⟨ofLive [4] [iV j], emptyHp, 0⟩) (findGo p pre.length suf)
  | [], pre, kk, hxs, hk => by
    obtain ⟨kk, rfl⟩ : ∃ m, kk = m + 1 := ⟨kk - 1, by simp at hk; omega⟩
    have h1 : decide ((pre.length : Int) < xs.length) = false := by simp [hxs]
    simp +contextual -dsimp -implicitDefEqProofs (maxSteps := 5000000) only [gLs, ↓un_c (c177_1.eq_1), h1, hcap, hsc, findGo, optFin_none, go_sem, simprocAttr]
  | a :: suf, pre, kk, hxs, hk => by
    obtain ⟨kk, rfl⟩ : ∃ m, kk = m + 1 := ⟨kk - 1, by simp at hk; omega⟩
    have hl : pre.length < xs.length := by simp [hxs]
    have h1 : decide ((pre.length : Int) < xs.length) = true := by simpa using hl
    have h2 : ((pre.length : Int) < xs.length) = True := by simpa using hl
    have h3 : (0 ≤ (pre.length : Int)) = True := by simp
    have h4 := wrN pre.length (by omega)
    have hg : xs[pre.length]? = some a := by simp [hxs]
    have hpa := hp a (by simp [hxs])
    simp only [eE] at hpa
    have ih := l_ixEvent i k pf nn xs p g cap hc hcap hsc hp hx q Q u w suf (pre ++ [a]) kk (by simp [hxs]) (by simpa using hk)
    rw [append_len1] at ih
    cases hb : p a <;> rw [hb] at hpa <;> simp +contextual -dsimp -implicitDefEqProofs (maxSteps := 5000000) only [gLs, ↓un_c (c177_1.eq_1), h1, h2, h3, h4, hcap, hsc, findGo, optFin_some, hg, hpa, hb, hc, ih, Int.toNat_natCast, List.getElem?_map, go_sem, simprocAttr]
theorem s_cfEvent (i : Nat) (pf nn : Bool) (xs : List TEvent) (p : TEvent → Bool) (g : Nat) (cap : List V) (hc : CallP tbl g []) (hcap : ∀ d, amMap (reify (d + 1)) cap = .ret cap) (hsc : scrubs 0 cap = cap) (hn : ones cap = true) 
    (hp : ∀ a, a ∈ xs → pureOf (Lv ctx i) g (eE a :: cap) = some (bV (p a))) (hx : xs.length ≤ BB) : pureOf (Lv ctx (i + 2)) 165 [.isl pf nn 4 (xs.map eE), .fn (.func g) [] cap] = some (bV (xs.any p)) := by
  have h1 : pureOf (Lv ctx (i + 1)) 177 [.isl pf nn 4 (xs.map eE), .fn (.func g) [] cap] = some (iV (idxOf (findGo p 0 xs))) := by
    refine sp_of rfl (xs.length + 1) (by rfl) ?_
    delta c177
    have hl := fun q Q u w => l_ixEvent i (xs.length + 1) pf nn xs p g cap hc hcap hsc hp hx q Q u w xs [] (xs.length + 1) rfl (by omega)
    simp only [List.length_nil, Int.natCast_zero] at hl
    simp +contextual -dsimp -implicitDefEqProofs (maxSteps := 5000000) only [hl, go_sem, simprocAttr]
    cases findGo p 0 xs <;> simp +contextual -dsimp -implicitDefEqProofs (maxSteps := 5000000) only [optFin_none, optFin_some, idxOf, go_sem, simprocAttr]
  refine sp_of rfl 0 (by rfl) ?_
  delta c165
  simp +contextual -dsimp -implicitDefEqProofs (maxSteps := 5000000) only [h1, hcap, findGo_any, go_sem, simprocAttr]


theorem l_ixRead (i k : Nat) (pf nn : Bool) (xs : List TRead) (p : TRead → Bool) (g : Nat) (cap : List V) (hc : CallP tbl g []) (hcap : ∀ d, amMap (reify (d + 1)) cap = .ret cap) (hsc : scrubs 0 cap = cap)
    (hp : ∀ a, a ∈ xs → pureOf (Lv ctx i) g (eR a :: cap) = some (bV (p a))) (hx : xs.length ≤ BB) (q : Out → St → Option Ans) (Q : V → Hp → Nat → Prop) (u : Dum fun s q => evC ctx (Lv ctx i) (pureOf (Lv ctx i)) k c138_1 s (restK [0, 1, 7, 8] q)) (w : Dum q) : ∀ (suf pre : List TRead) (kk : Nat), xs = pre ++ suf → suf.length < kk →
    GL 0 [0, 1, 7, 8] (fun s q => evC ctx (Lv ctx i) (pureOf (Lv ctx i)) k c138_1 s (restK [0, 1, 7, 8] q)) q kk ⟨ofLive [0, 1, 7, 8] [.isl pf nn 3 (xs.map eR), .fn (.func g) [] cap, iV xs.length, iV pre.length], emptyHp, 0⟩ Q u w =
    optFin q Q ⟨ofLive [] [], emptyHp, 0⟩ (fun j => ⟨ofLive [4] [iV j], emptyHp, 0⟩) (findGo p pre.length suf)
  | [], pre, kk, hxs, hk => by
    obtain ⟨kk, rfl⟩ : ∃ m, kk = m + 1 := ⟨kk - 1, by simp at hk; omega⟩
    have h1 : decide ((pre.length : Int) < xs.length) = false := by simp [hxs]
    simp +contextual -dsimp -implicitDefEqProofs (maxSteps := 5000000) only [gLs, ↓un_c (c138_1.eq_1), h1, hcap, hsc, findGo, optFin_none, go_sem, simprocAttr]
  | a :: suf, pre, kk, hxs, hk => by
    obtain ⟨kk, rfl⟩ : ∃ m, kk = m + 1 := ⟨kk - 1, by simp at hk; omega⟩
    have hl : pre.length < xs.length := by simp [hxs]
    have h1 : decide ((pre.length : Int) < xs.length) = true := by simpa using hl
    have h2 : ((pre.length : Int) < xs.length) = True := by simpa using hl
    have h3 : (0 ≤ (pre.length : Int)) = True := by simp
    have h4 := wrN pre.length (by omega)
    have hg : xs[pre.length]? = some a := by simp [hxs]
    have hpa := hp a (by simp [hxs])
    simp only [eR] at hpa
    have ih := l_ixRead i k pf nn xs p g cap hc hcap hsc hp hx q Q u w suf (pre ++ [a]) kk (by simp [hxs]) (by simpa using hk)
    rw [append_len1] at ih
    cases hb : p a <;> rw [hb] at hpa <;> simp +contextual -dsimp -implicitDefEqProofs (maxSteps := 5000000) only [gLs, ↓un_c (c138_1.eq_1), h1, h2, h3, h4, hcap, hsc, findGo, optFin_some, hg, hpa, hb, hc, ih, Int.toNat_natCast, List.getElem?_map, go_sem, simprocAttr]
theorem s_cfRead (i : Nat) (pf nn : Bool) (xs : List TRead) (p : TRead → Bool) (g : Nat) (cap : List V) (hc : CallP tbl g []) (hcap : ∀ d, amMap (reify (d + 1)) cap = .ret cap) (hsc : scrubs 0 cap = cap) (hn : ones cap = true) 
    (hp : ∀ a, a ∈ xs → pureOf (Lv ctx i) g (eR a :: cap) = some (bV (p a))) (hx : xs.length ≤ BB) : pureOf (Lv ctx (i + 2)) 111 [.isl pf nn 3 (xs.map eR), .fn (.func g) [] cap] = some (bV (xs.any p)) := by
  have h1 : pureOf (Lv ctx (i + 1)) 138 [.isl pf nn 3 (xs.map eR), .fn (.func g) [] cap] = some (iV (idxOf (findGo p 0 xs))) := by
    refine sp_of rfl (xs.length + 1) (by rfl) ?_
    delta c138
    have hl := fun q Q u w => l_ixRead i (xs.length + 1) pf nn xs p g cap hc hcap hsc hp hx q Q u w xs [] (xs.length + 1) rfl (by omega)
    simp only [List.length_nil, Int.natCast_zero] at hl
    simp +contextual -dsimp -implicitDefEqProofs (maxSteps := 5000000) only [hl, go_sem, simprocAttr]
    cases findGo p 0 xs <;> simp +contextual -dsimp -implicitDefEqProofs (maxSteps := 5000000) only [optFin_none, optFin_some, idxOf, go_sem, simprocAttr]
  refine sp_of rfl 0 (by rfl) ?_
  delta c111
  simp +contextual -dsimp -implicitDefEqProofs (maxSteps := 5000000) only [h1, hcap, findGo_any, go_sem, simprocAttr]


theorem l_ixWrite (i k : Nat) (pf nn : Bool) (xs : List TWrite) (p : TWrite → Bool) (g : Nat) (cap : List V) (hc : CallP tbl g []) (hcap : ∀ d, amMap (reify (d + 1)) cap = .ret cap) (hsc : scrubs 0 cap = cap)
    (hp : ∀ a, a ∈ xs → pureOf (Lv ctx i) g (eWr a :: cap) = some (bV (p a))) (hx : xs.length ≤ BB) (q : Out → St → Option Ans) (Q : V → Hp → Nat → Prop) (u : Dum fun s q => evC ctx (Lv ctx i) (pureOf (Lv ctx i)) k c179_1 s (restK [0, 1, 7, 8] q)) (w : Dum q) : ∀ (suf pre : List TWrite) (kk : Nat), xs = pre ++ suf → suf.length < kk →
    GL 0 [0, 1, 7, 8] (fun s q => evC ctx (Lv ctx i) (pureOf (Lv ctx i)) k c179_1 s (restK [0, 1, 7, 8] q)) q kk ⟨ofLive [0, 1, 7, 8] [.isl pf nn 3 (xs.map eWr), .fn (.func g) [] cap, iV xs.length, iV pre.length], emptyHp, 0⟩ Q u w =
    optFin q Q ⟨ofLive [] [], emptyHp, 0⟩ (fun j => ⟨ofLive [4] [iV j], emptyHp, 0⟩) (findGo p pre.length suf)
  | [], pre, kk, hxs, hk => by
    obtain ⟨kk, rfl⟩ : ∃ m, kk = m + 1 := ⟨kk - 1, by simp at hk; omega⟩
    have h1 : decide ((pre.length : Int) < xs.length) = false := by simp [hxs]
    simp +contextual -dsimp -implicitDefEqProofs (maxSteps := 5000000) only [gLs, ↓un_c (c179_1.eq_1), h1, hcap, hsc, findGo, optFin_none, go_sem, simprocAttr]
  | a :: suf, pre, kk, hxs, hk => by
    obtain ⟨kk, rfl⟩ : ∃ m, kk = m + 1 := ⟨kk - 1, by simp at hk; omega⟩
    have hl : pre.length < xs.length := by simp [hxs]
    have h1 : decide ((pre.length : Int) < xs.length) = true := by simpa using hl
    have h2 : ((pre.length : Int) < xs.length) = True := by simpa using hl
    have h3 : (0 ≤ (pre.length : Int)) = True := by simp
    have h4 := wrN pre.length (by omega)
    have hg : xs[pre.length]? = some a := by simp [hxs]
    have hpa := hp a (by simp [hxs])
    simp only [eWr] at hpa
    have ih := l_ixWrite i k pf nn xs p g cap hc hcap hsc hp hx q Q u w suf (pre ++ [a]) kk (by simp [hxs]) (by simpa using hk)
    rw [append_len1] at ih
    cases hb : p a <;> rw [hb] at hpa <;> simp +contextual -dsimp -implicitDefEqProofs (maxSteps := 5000000) only [gLs, ↓un_c (c179_1.eq_1), h1, h2, h3, h4, hcap, hsc, findGo, optFin_some, hg, hpa, hb, hc, ih, Int.toNat_natCast, List.getElem?_map, go_sem, simprocAttr]
theorem s_cfWrite (i : Nat) (pf nn : Bool) (xs : List TWrite) (p : TWrite → Bool) (g : Nat) (cap : List V) (hc : CallP tbl g []) (hcap : ∀ d, amMap (reify (d + 1)) cap = .ret cap) (hsc : scrubs 0 cap = cap) (hn : ones cap = true) 
    (hp : ∀ a, a ∈ xs → pureOf (Lv ctx i) g (eWr a :: cap) = some (bV (p a))) (hx : xs.length ≤ BB) : pureOf (Lv ctx (i + 2)) 172 [.isl pf nn 3 (xs.map eWr), .fn (.func g) [] cap] = some (bV (xs.any p)) := by
  have h1 : pureOf (Lv ctx (i + 1)) 179 [.isl pf nn 3 (xs.map eWr), .fn (.func g) [] cap] = some (iV (idxOf (findGo p 0 xs))) := by
    refine sp_of rfl (xs.length + 1) (by rfl) ?_
    delta c179
    have hl := fun q Q u w => l_ixWrite i (xs.length + 1) pf nn xs p g cap hc hcap hsc hp hx q Q u w xs [] (xs.length + 1) rfl (by omega)
    simp only [List.length_nil, Int.natCast_zero] at hl
    simp +contextual -dsimp -implicitDefEqProofs (maxSteps := 5000000) only [hl, go_sem, simprocAttr]
    cases findGo p 0 xs <;> simp +contextual -dsimp -implicitDefEqProofs (maxSteps := 5000000) only [optFin_none, optFin_some, idxOf, go_sem, simprocAttr]
  refine sp_of rfl 0 (by rfl) ?_
  delta c172
  simp +contextual -dsimp -implicitDefEqProofs (maxSteps := 5000000) only [h1, hcap, findGo_any, go_sem, simprocAttr]


theorem l_ixInst (i k : Nat) (pf nn : Bool) (xs : List TInst) (p : TInst → Bool) (g : Nat) (cap : List V) (hc : CallP tbl g []) (hcap : ∀ d, amMap (reify (d + 1)) cap = .ret cap) (hsc : scrubs 0 cap = cap)
    (hp : ∀ a, a ∈ xs → pureOf (Lv ctx i) g (eI a :: cap) = some (bV (p a))) (hx : xs.length ≤ BB) (q : Out → St → Option Ans) (Q : V → Hp → Nat → Prop) (u : Dum fun s q => evC ctx (Lv ctx i) (pureOf (Lv ctx i)) k c180_1 s (restK [0, 1, 7, 8] q)) (w : Dum q) : ∀ (suf pre : List TInst) (kk : Nat), xs = pre ++ suf → suf.length < kk →
    GL 0 [0, 1, 7, 8] (fun s q => evC ctx (Lv ctx i) (pureOf (Lv ctx i)) k c180_1 s (restK [0, 1, 7, 8] q)) q kk ⟨ofLive [0, 1, 7, 8] [.isl pf nn 4 (xs.map eI), .fn (.func g) [] cap, iV xs.length, iV pre.length], emptyHp, 0⟩ Q u w =
    optFin q Q ⟨ofLive [] [], emptyHp, 0⟩ (fun j => ⟨ofLive [4] [iV j], emptyHp, 0⟩) (findGo p pre.length suf)
  | [], pre, kk, hxs, hk => by
    obtain ⟨kk, rfl⟩ : ∃ m, kk = m + 1 := ⟨kk - 1, by simp at hk; omega⟩
    have h1 : decide ((pre.length : Int) < xs.length) = false := by simp [hxs]
    simp +contextual -dsimp -implicitDefEqProofs (maxSteps := 5000000) only [gLs, ↓un_c (c180_1.eq_1), h1, hcap, hsc, findGo, optFin_none, go_sem, simprocAttr]
  | a :: suf, pre, kk, hxs, hk => by
    obtain ⟨kk, rfl⟩ : ∃ m, kk = m + 1 := ⟨kk - 1, by simp at hk; omega⟩
    have hl : pre.length < xs.length := by simp [hxs]
    have h1 : decide ((pre.length : Int) < xs.length) = true := by simpa using hl
    have h2 : ((pre.length : Int) < xs.length) = True := by simpa using hl
    have h3 : (0 ≤ (pre.length : Int)) = True := by simp
    have h4 := wrN pre.length (by omega)
    have hg : xs[pre.length]? = some a := by simp [hxs]
    have hpa := hp a (by simp [hxs])
    simp only [eI] at hpa
    have ih := l_ixInst i k pf nn xs p g cap hc hcap hsc hp hx q Q u w suf (pre ++ [a]) kk (by simp [hxs]) (by simpa using hk)
    rw [append_len1] at ih
    cases hb : p a <;> rw [hb] at hpa <;> simp +contextual -dsimp -implicitDefEqProofs (maxSteps := 5000000) only [gLs, ↓un_c (c180_1.eq_1), h1, h2, h3, h4, hcap, hsc, findGo, optFin_some, hg, hpa, hb, hc, ih, Int.toNat_natCast, List.getElem?_map, go_sem, simprocAttr]
theorem s_cfInst (i : Nat) (pf nn : Bool) (xs : List TInst) (p : TInst → Bool) (g : Nat) (cap : List V) (hc : CallP tbl g []) (hcap : ∀ d, amMap (reify (d + 1)) cap = .ret cap) (hsc : scrubs 0 cap = cap) (hn : ones cap = true) 
    (hp : ∀ a, a ∈ xs → pureOf (Lv ctx i) g (eI a :: cap) = some (bV (p a))) (hx : xs.length ≤ BB) : pureOf (Lv ctx (i + 2)) 174 [.isl pf nn 4 (xs.map eI), .fn (.func g) [] cap] = some (bV (xs.any p)) := by
  have h1 : pureOf (Lv ctx (i + 1)) 180 [.isl pf nn 4 (xs.map eI), .fn (.func g) [] cap] = some (iV (idxOf (findGo p 0 xs))) := by
    refine sp_of rfl (xs.length + 1) (by rfl) ?_
    delta c180
    have hl := fun q Q u w => l_ixInst i (xs.length + 1) pf nn xs p g cap hc hcap hsc hp hx q Q u w xs [] (xs.length + 1) rfl (by omega)
    simp only [List.length_nil, Int.natCast_zero] at hl
    simp +contextual -dsimp -implicitDefEqProofs (maxSteps := 5000000) only [hl, go_sem, simprocAttr]
    cases findGo p 0 xs <;> simp +contextual -dsimp -implicitDefEqProofs (maxSteps := 5000000) only [optFin_none, optFin_some, idxOf, go_sem, simprocAttr]
  refine sp_of rfl 0 (by rfl) ?_
  delta c174
  simp +contextual -dsimp -implicitDefEqProofs (maxSteps := 5000000) only [h1, hcap, findGo_any, go_sem, simprocAttr]

end Ve
