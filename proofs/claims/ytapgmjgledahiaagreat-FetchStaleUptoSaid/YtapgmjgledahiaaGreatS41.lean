/- The program's reads, its checking. -/
import Derived.Test.YtapgmjgledahiaaGreatS42
import Derived.Test.YtapgmjgledahiaaGreatS30
import Derived.Test.YtapgmjgledahiaaGreatS38
import Derived.Test.YtapgmjgledahiaaGreatLo2
import Derived.Test.YtapgmjgledahiaaGreatVeP
set_option linter.all false
set_option linter.unusedSectionVars false
namespace Ve
open Go Ve.Ab
set_option maxHeartbeats 16000000
set_option maxRecDepth 10000
abbrev cW (pf : Bool) (ws : A4 (List TWord)) : List V := [eWs pf ws.a0, eWs pf ws.a1, eWs pf ws.a2, eWs pf ws.a3]
def fW (ws : A4 (List TWord)) (r : TRead) : TWord := getW ws r.level r.index
def wordsM (ws : A4 (List TWord)) (xs : List TRead) : List TWord × Bool := if (arenaMay ws && readsMay xs && readsThere ws xs) = true then (xs.map (fW ws), true) else ([], false)
theorem ls_words (i k : Nat) (p pf p2 nn : Bool) (ws : A4 (List TWord)) (xs : List TRead) (hx : xs.length ≤ 16) (q : Out → St → Option Ans) (Q : V → Hp → Nat → Prop)
    (u : Dum (fun s q => evC ctx (Lv ctx (i + 7)) (pureOf (Lv ctx (i + 7))) k c77_1 s (restK [0, 6, 19, 20, 21] q))) (w : Dum q)
    (hend : readsThere ws xs = true → Fin (q (.exit 0) ⟨ofLive [6] [.sl 0], pO emptyHp 0 (some ⟨3, (xs.map (fW ws)).map eW, false⟩), 1⟩) Q)
    (hbad : ∀ h n, readsThere ws xs = false → Fin (q .ret ⟨ofLive [4, 5] [nilV, bV false], h, n⟩) Q) :
    ∀ (suf pre : List TRead) (kk : Nat), xs = pre ++ suf → suf.length < kk → (∀ r ∈ pre, wThere ws r.level r.index = true) →
    GL 0 [0, 6, 19, 20, 21] (fun s q => evC ctx (Lv ctx (i + 7)) (pureOf (Lv ctx (i + 7))) k c77_1 s (restK [0, 6, 19, 20, 21] q)) q kk ⟨ofLive [0, 6, 19, 20, 21] [.ip p (cW pf ws) 0, .sl 0, .isl p2 nn 3 (xs.map eR), iV xs.length, iV pre.length], pO emptyHp 0 (some ⟨3, (pre.map (fW ws)).map eW, false⟩), 1⟩ Q u w
  | [], pre, kk, hxs, hk, hall => by
    obtain ⟨kk, rfl⟩ : ∃ m, kk = m + 1 := ⟨kk - 1, by simp at hk; omega⟩
    have h1 : decide ((pre.length : Int) < xs.length) = false := by simp [hxs]
    have h2 : xs = pre := by simp [hxs]
    have he := hend (by rw [h2, readsThere, List.all_eq_true]; exact hall)
    rw [h2] at he
    simp +contextual -dsimp -implicitDefEqProofs (maxSteps := 5000000) only [gLs, ↓un_c (c77_1.eq_1), h1, go_sem, simprocAttr]
    exact he
  | a :: suf, pre, kk, hxs, hk, hall => by
    obtain ⟨kk, rfl⟩ : ∃ m, kk = m + 1 := ⟨kk - 1, by simp at hk; omega⟩
    have hl : pre.length < xs.length := by simp [hxs]
    have h2 : ((pre.length : Int) < xs.length) = True := by simpa using hl
    have h3 : (0 ≤ (pre.length : Int)) = True := by simp
    have h4 := wrN pre.length (by simp only [BB]; omega)
    have hg : xs[pre.length]? = some a := by simp [hxs]
    have h5 : (((pre.length + 1 : Nat) : Int) * 24 ≤ 140737488355328) = True := by simp only [eq_iff_iff, iff_true]; omega
    cases hb : wThere ws a.level a.index
    · have he : readsThere ws xs = false := by rw [readsThere, List.all_eq_false]; exact ⟨a, by simp [hxs], by simp [hb]⟩
      simp +contextual -dsimp -implicitDefEqProofs (maxSteps := 5000000) only [gLs, ↓un_c (c77_1.eq_1), h2, h3, hg, hb, go_sem, simprocAttr]
      exact hbad _ _ he
    · have ih := ls_words i k p pf p2 nn ws xs hx q Q u w hend hbad suf (pre ++ [a]) kk (by simp [hxs]) (by simpa using hk) (by
        intro r hr
        rcases List.mem_append.1 hr with h | h
        · exact hall r h
        · simp only [List.mem_singleton] at h; subst h; exact hb)
      have hlb := there_lab hb
      obtain ⟨lv, ix, vr⟩ := a
      obtain ⟨n, g, rfl, hgw, hge, hln⟩ := there_get hb
      have l4 : (0 ≤ (n : Int)) = True := by simp
      simp only [append_len1, List.map_append, List.map_cons, List.map_nil, fW, hge, eW] at ih
      rcases lab4 hlb with h | h | h | h
      all_goals
        simp only at h
        subst h
        simp only [A4.get, simprocAttr] at hgw hln
        have hln' := eq_true hln
        simp +contextual -dsimp -implicitDefEqProofs (maxSteps := 5000000) only [gLs, ↓un_c (c77_1.eq_1), h2, h3, h4, h5, hg, hb, hgw, hln', l4, go_sem, simprocAttr]
        exact (gl_normE (by rfl)).mpr ih
theorem s_words (i : Nat) (p pf p2 nn : Bool) (ws : A4 (List TWord)) (xs : List TRead) (hx : xs.length ≤ BB) : pureOf (Lv ctx (i + 8)) 77 [.ip p (cW pf ws) 0, .isl p2 nn 3 (xs.map eR)] = some (.tup [oWs (wordsM ws xs).1, bV (wordsM ws xs).2]) := by
  have q2 := s_reads (i + 2 + 1) p2 nn xs hx
  simp only [Nat.add_assoc, Nat.reduceAdd] at q2
  have no : (arenaMay ws && readsMay xs && readsThere ws xs) = false → wordsM ws xs = ([], false) := by intro h; unfold wordsM; rw [h]; rfl
  cases hc : (arenaMay ws && readsMay xs)
  · rw [no (by rw [hc]; rfl)]
    refine sp_of rfl 0 (by rfl) ?_
    delta c77
    simp +contextual -dsimp -implicitDefEqProofs (maxSteps := 5000000) only [q2, nn2, hc, List.map_nil, go_sem, simprocAttr]
    rfl
  · obtain ⟨ha, hr⟩ := (Bool.and_eq_true _ _).mp hc
    have hl : xs.length ≤ 16 := by simp only [readsMay, Bool.and_eq_true, decide_eq_true_eq] at hr; exact hr.2
    have yes : readsThere ws xs = true → wordsM ws xs = (xs.map (fW ws), true) := by intro h; unfold wordsM; rw [hc, h]; rfl
    cases xs with
    | nil =>
      rw [yes rfl]
      simp only [List.map_nil] at q2
      refine sp_of rfl 3 (by rfl) ?_
      delta c77
      simp +contextual -dsimp -implicitDefEqProofs (maxSteps := 5000000) only [q2, ha, hr, gLs, ↓un_c (c77_1.eq_1), List.map_nil, List.length_nil, go_sem, simprocAttr]
      rfl
    | cons a suf =>
      simp only [List.map_cons, eR] at q2
      obtain ⟨K, hK⟩ : ∃ K, K = suf.length + 2 := ⟨_, rfl⟩
      have key := fun q Q u w h1 h2 => ls_words i (K + 1) p pf p2 nn ws (a :: suf) hl q Q u w h1 h2 suf [a] K rfl (by omega)
      cases hb : wThere ws a.level a.index
      · have he : readsThere ws (a :: suf) = false := by rw [readsThere, List.all_eq_false]; exact ⟨a, by simp, by simp [hb]⟩
        rw [no (by rw [hc, he]; rfl)]
        have z1 : ((0 : Int) < (((suf.length + 1 : Nat)) : Int)) = True := by simp only [eq_iff_iff, iff_true]; omega
        refine sp_of rfl (K + 1) (by rfl) ?_
        delta c77
        simp +contextual -dsimp -implicitDefEqProofs (maxSteps := 5000000) only [q2, ha, hr, hb, z1, gLs, ↓un_c (c77_1.eq_1), List.map_nil, List.map_cons, List.length_cons, go_sem, simprocAttr]
        rfl
      · have z1 : ((0 : Int) < (((suf.length + 1 : Nat)) : Int)) = True := by simp only [eq_iff_iff, iff_true]; omega
        have hlb := there_lab hb
        obtain ⟨lv, ix, vr⟩ := a
        obtain ⟨n, g, rfl, hgw, hge, hln⟩ := there_get hb
        have l4 : (0 ≤ (n : Int)) = True := by simp
        simp only [List.length_singleton, List.map_cons, List.map_nil, fW, hge, eW, List.mem_singleton, forall_eq, hb, true_implies] at key
        rcases lab4 hlb with h | h | h | h
        all_goals
          simp only at h
          subst h
          simp only [A4.get, simprocAttr] at hgw hln
          have hln' := eq_true hln
          refine sp_of rfl (K + 1) (by rfl) ?_
          delta c77
          simp +contextual -dsimp -implicitDefEqProofs (maxSteps := 5000000) only [q2, ha, hr, hb, z1, hgw, hln', l4, gLs, ↓un_c (c77_1.eq_1), List.map_cons, List.map_nil, List.length_cons, go_sem, simprocAttr]
          refine gl_norm (key _ _ ⟨⟩ ⟨⟩ ?ha ?hb) (by rfl)
          case ha => intro he; rw [yes he]; simp only [List.map_cons, fW, hge]; simp +contextual -dsimp -implicitDefEqProofs (maxSteps := 5000000) only [List.map_cons, go_sem, simprocAttr]; rfl
          case hb => intro h n he; rw [no (by rw [hc, he]; rfl)]; simp +contextual -dsimp -implicitDefEqProofs (maxSteps := 5000000) only [List.map_nil, go_sem, simprocAttr]; rfl
theorem s_good (i : Nat) (pf p2 : Bool) (ws : A4 (List TWord)) (xs : List TRead) (hx : xs.length ≤ BB) (id : Int) : pureOf (Lv ctx (i + 9)) 64 [.agg (cW pf ws), .isl p2 false 3 (xs.map eR), iV id] = some (.tup [bV (goodM ws xs id).1, iV (goodM ws xs id).2]) := by
  have qw := fun p => s_words i p pf p2 false ws xs hx
  cases hc : (arenaMay ws && readsMay xs && readsThere ws xs && inR id 254)
  · have e : goodM ws xs id = (false, 900) := by unfold goodM; rw [hc]; rfl
    rw [e]
    cases hd : (arenaMay ws && readsMay xs && readsThere ws xs)
    · have e2 : wordsM ws xs = ([], false) := by unfold wordsM; rw [hd]; rfl
      rw [e2] at qw
      refine sp_of rfl 0 (by rfl) ?_
      delta c64
      cases pf <;> simp +contextual -dsimp -implicitDefEqProofs (maxSteps := 5000000) only [qw, List.map_nil, go_sem, simprocAttr]
    · have e2 : wordsM ws xs = (xs.map (fW ws), true) := by unfold wordsM; rw [hd]; rfl
      have hi : inR id 254 = false := by rw [hd] at hc; simpa using hc
      rw [e2] at qw
      refine sp_of rfl 0 (by rfl) ?_
      delta c64
      cases pf <;> simp +contextual -dsimp -implicitDefEqProofs (maxSteps := 5000000) only [qw, hi, go_sem, simprocAttr]
  · have hcc := hc
    simp only [Bool.and_eq_true] at hcc
    have hl : xs.length ≤ 16 := by have := hcc.1.1.2; simp only [readsMay, Bool.and_eq_true, decide_eq_true_eq] at this; exact this.2
    have hi := hcc.2
    have hw := wrap_in (c := 254) hi (by omega)
    have e : goodM ws xs id = (xs.all (goodR ws id), 0) := by unfold goodM; rw [hc]; rfl
    have e2 : wordsM ws xs = (xs.map (fW ws), true) := by
      have : (arenaMay ws && readsMay xs && readsThere ws xs) = true := ((Bool.and_eq_true _ _).mp hc).1
      unfold wordsM; rw [this]; rfl
    rw [e]
    rw [e2] at qw
    refine sp_of rfl (xs.length + 1) (by rfl) ?_
    delta c64
    have key : ∀ (q : Out → St → Option Ans) (Q : V → Hp → Nat → Prop) (u : Dum (fun s q => evC ctx (Lv ctx (i + 8)) (pureOf (Lv ctx (i + 8))) (xs.length + 1) c64_1 s (restK [1, 2, 24, 25, 26] q))) (w : Dum q),
        (xs.all (goodR ws id) = true → Fin (q (.exit 0) ⟨ofLive [] [], pO emptyHp 0 (some ⟨3, (xs.map (fW ws)).map eW, false⟩), 1⟩) Q) → (∀ h n, xs.all (goodR ws id) = false → Fin (q .ret ⟨ofLive [6, 7] [bV false, iV 0], h, n⟩) Q) →
        GL 1 [1, 2, 24, 25, 26] (fun s q => evC ctx (Lv ctx (i + 8)) (pureOf (Lv ctx (i + 8))) (xs.length + 1) c64_1 s (restK [1, 2, 24, 25, 26] q)) q (xs.length + 1) ⟨ofLive [1, 2, 24, 25, 26] [.isl p2 false 3 (xs.map eR), iV id, .sl 0, iV xs.length, iV 0], pO emptyHp 0 (some ⟨3, (xs.map (fW ws)).map eW, false⟩), 1⟩ Q u w := by
      intro q Q u w hend hbad
      refine gl_all (S := fun j => ⟨ofLive [1, 2, 24, 25, 26] [.isl p2 false 3 (xs.map eR), iV id, .sl 0, iV xs.length, iV j], pO emptyHp 0 (some ⟨3, (xs.map (fW ws)).map eW, false⟩), 1⟩) xs.length (fun j => goodR ws id (xs.getD j ⟨0, 0, 0⟩)) rfl (by omega) ?_ ?_ ?_
      · intro j kk hj hgd hl
        have hxj : xs[j]? = some (xs.getD j ⟨0, 0, 0⟩) := by simp [List.getD_eq_getElem?_getD, hj]
        generalize xs.getD j ⟨0, 0, 0⟩ = x at hxj hgd
        obtain ⟨g, hg⟩ : ∃ g, fW ws x = g := ⟨_, rfl⟩
        have hgd' : (decide (g.ver = x.ver) && (decide (g.lock = 0) || decide (g.lock = id + 1))) = true := by rw [← hg]; exact hgd
        simp only [Bool.and_eq_true] at hgd'
        have l1 : ((j : Int) < (xs.length : Int)) = True := by simpa using hj
        have l2 : (0 ≤ (j : Int)) = True := by simp
        have l3 := wrN j (by simp only [BB]; omega)
        have f1 := hgd'.1
        cases f2 : decide (g.lock = 0)
        · have f3 : decide (g.lock = id + 1) = true := by rw [f2] at hgd'; simpa using hgd'.2
          simp +contextual -dsimp -implicitDefEqProofs (maxSteps := 5000000) only [l1, l2, l3, hxj, hg, f1, f2, f3, hw, ↓un_c (c64_1.eq_1), go_sem, simprocAttr]
          exact gl_norm hl (by rfl)
        · simp +contextual -dsimp -implicitDefEqProofs (maxSteps := 5000000) only [l1, l2, l3, hxj, hg, f1, f2, hw, ↓un_c (c64_1.eq_1), go_sem, simprocAttr]
          exact gl_norm hl (by rfl)
      · intro j kk hj hgd _
        have hxj : xs[j]? = some (xs.getD j ⟨0, 0, 0⟩) := by simp [List.getD_eq_getElem?_getD, hj]
        generalize xs.getD j ⟨0, 0, 0⟩ = x at hxj hgd
        have hf : xs.all (goodR ws id) = false := all_false _ hxj hgd
        obtain ⟨g, hg⟩ : ∃ g, fW ws x = g := ⟨_, rfl⟩
        have hgd' : (decide (g.ver = x.ver) && (decide (g.lock = 0) || decide (g.lock = id + 1))) = false := by rw [← hg]; exact hgd
        have l1 : ((j : Int) < (xs.length : Int)) = True := by simpa using hj
        have l2 : (0 ≤ (j : Int)) = True := by simp
        cases f1 : decide (g.ver = x.ver)
        · simp +contextual -dsimp -implicitDefEqProofs (maxSteps := 5000000) only [l1, l2, hxj, hg, f1, hw, ↓un_c (c64_1.eq_1), go_sem, simprocAttr]
          exact hbad _ _ hf
        · rw [f1] at hgd'
          simp only [Bool.true_and, Bool.or_eq_false_iff] at hgd'
          simp +contextual -dsimp -implicitDefEqProofs (maxSteps := 5000000) only [l1, l2, hxj, hg, f1, hgd'.1, hgd'.2, hw, ↓un_c (c64_1.eq_1), go_sem, simprocAttr]
          exact hbad _ _ hf
      · intro kk hall
        have l0 : decide ((xs.length : Int) < (xs.length : Int)) = false := by simp
        simp +contextual -dsimp -implicitDefEqProofs (maxSteps := 5000000) only [l0, ↓un_c (c64_1.eq_1), go_sem, simprocAttr]
        exact hend (all_range _ ⟨0, 0, 0⟩ _ hall)
    cases pf
    all_goals
      simp +contextual -dsimp -implicitDefEqProofs (maxSteps := 5000000) only [qw, hi, List.length_map, go_sem, simprocAttr]
      refine key _ _ _ _ (fun h => ?_) (fun _ _ h => ?_)
      · rw [h]; simp +contextual -dsimp -implicitDefEqProofs (maxSteps := 5000000) only [go_sem, simprocAttr]
      · rw [h]; simp +contextual -dsimp -implicitDefEqProofs (maxSteps := 5000000) only [go_sem, simprocAttr]
end Ve
