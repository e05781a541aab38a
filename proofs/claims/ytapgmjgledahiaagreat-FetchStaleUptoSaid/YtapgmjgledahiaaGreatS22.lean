/- The reference's sets. -/
import Derived.Test.YtapgmjgledahiaaGreatS21
set_option linter.all false
set_option linter.unusedSectionVars false
namespace Ve
open Go Ve.Ab
set_option maxHeartbeats 16000000
set_option maxRecDepth 10000
theorem there_get {w0 w1 w2 w3 : List TWord} {l i : Int} (h : wThere ⟨w0, w1, w2, w3⟩ l i = true) : ∃ (n : Nat) (w : TWord), i = (n : Int) ∧ ((⟨w0, w1, w2, w3⟩ : A4 (List TWord)).get l)[n]? = some w ∧ getW ⟨w0, w1, w2, w3⟩ l i = w ∧ ((n : Int) < (((⟨w0, w1, w2, w3⟩ : A4 (List TWord)).get l).length : Int)) := by
  simp only [wThere, Bool.and_eq_true, decide_eq_true_eq] at h
  obtain ⟨⟨_, h1⟩, h2⟩ := h
  have hl : i.toNat < ((⟨w0, w1, w2, w3⟩ : A4 (List TWord)).get l).length := by omega
  refine ⟨i.toNat, _, by omega, List.getElem?_eq_getElem hl, ?_, by omega⟩
  simp only [getW, List.getElem?_eq_getElem hl, Option.getD_some]
theorem sw4 (a b c d : Bool) : (a && b && c && d) = (a && b && d && c) := by cases a <;> cases b <;> cases c <;> cases d <;> rfl
theorem there_lab {ws : A4 (List TWord)} {l i : Int} (h : wThere ws l i = true) : inR l 3 = true := by
  simp only [wThere, Bool.and_eq_true] at h; exact h.1.1
theorem all_get {α : Type} {p : α → Bool} {l : List α} (h : l.all p = true) {j : Nat} {x : α} (hx : l[j]? = some x) : p x = true :=
  List.all_eq_true.1 h x (List.mem_of_getElem? hx)
theorem all_range {α : Type} (p : α → Bool) (d : α) (l : List α) (h : ∀ j, j < l.length → p (l.getD j d) = true) : l.all p = true := by
  rw [List.all_eq_true]
  intro x hx
  obtain ⟨j, hj, rfl⟩ := List.mem_iff_getElem.1 hx
  have := h j hj
  simpa [List.getD_eq_getElem?_getD, hj] using this
theorem all_false {α : Type} (p : α → Bool) {l : List α} {j : Nat} {x : α} (hx : l[j]? = some x) (h : p x = false) : l.all p = false := by
  cases hh : l.all p with
  | false => rfl
  | true => rw [all_get hh hx] at h; cases h

theorem r_good (i : Nat) (a b c d na nb nc nd : Bool) (w0 w1 w2 w3 : List TWord) (h0 : w0.length ≤ BB) (h1 : w1.length ≤ BB) (h2 : w2.length ≤ BB) (h3 : w3.length ≤ BB) (pf nn : Bool) (xs : List TRead) (hx : xs.length ≤ BB) (id : Int) : pureOf (Lv ctx (i + 5)) 32 [.agg [.isl a na 3 (w0.map eW), .isl b nb 3 (w1.map eW), .isl c nc 3 (w2.map eW), .isl d nd 3 (w3.map eW)], .isl pf nn 3 (xs.map eR), iV id] = some (.tup [bV (goodM ⟨w0, w1, w2, w3⟩ xs id).1, iV (goodM ⟨w0, w1, w2, w3⟩ xs id).2]) := by
  have q1 := r_arena (i + 0) a b c d na nb nc nd w0 w1 w2 w3 h0 h1 h2 h3
  have q2 := r_reads (i + 0) pf nn xs hx
  have q3 := r_rthere (i + 0) pf nn xs hx a b c d na nb nc nd w0 w1 w2 w3
  simp only [Nat.add_assoc, Nat.reduceAdd] at q1 q2 q3
  cases hc : (arenaMay ⟨w0, w1, w2, w3⟩ && readsMay xs && inR id 254 && readsThere ⟨w0, w1, w2, w3⟩ xs)
  · have e : goodM ⟨w0, w1, w2, w3⟩ xs id = (false, 900) := by simp only [goodM]; rw [sw4, hc]; rfl
    rw [e]
    refine sp_of rfl (xs.length + 1) (by rfl) ?_
    delta c32
    simp +contextual -dsimp -implicitDefEqProofs (maxSteps := 5000000) only [q1, q2, q3, nn2, hc, go_sem, simprocAttr]
  · have hcc := hc
    simp only [Bool.and_eq_true] at hcc
    have hwid := wrap_in (c := 254) (x := id) (by simp only [hcc]) (by omega)
    have hth : readsThere ⟨w0, w1, w2, w3⟩ xs = true := by simp only [hcc]
    have e : goodM ⟨w0, w1, w2, w3⟩ xs id = (xs.all (goodR ⟨w0, w1, w2, w3⟩ id), 0) := by simp only [goodM]; rw [sw4, hc]; rfl
    rw [e]
    refine sp_of rfl (xs.length + 1) (by rfl) ?_
    delta c32
    simp +contextual -dsimp -implicitDefEqProofs (maxSteps := 5000000) only [q1, q2, q3, nn2, hc, go_sem, simprocAttr]
    refine gl_all (S := fun j => ⟨ofLive [1, 2, 3, 8] [.isl pf nn 3 (xs.map eR), iV id, .ip (a && (b && (c && d))) [.isl a na 3 (w0.map eW), .isl b nb 3 (w1.map eW), .isl c nc 3 (w2.map eW), .isl d nd 3 (w3.map eW)] 0, iV j], emptyHp, 0⟩) xs.length (fun j => goodR ⟨w0, w1, w2, w3⟩ id (xs.getD j ⟨0, 0, 0⟩)) rfl (by omega) ?_ ?_ ?_
    · intro j kk hj hgd hl
      have hxj : xs[j]? = some (xs.getD j ⟨0, 0, 0⟩) := by simp [List.getD_eq_getElem?_getD, hj]
      generalize xs.getD j ⟨0, 0, 0⟩ = x at hxj hgd
      obtain ⟨lv, ix, vr⟩ := x
      have ht := all_get hth hxj
      simp only at ht
      have hlb := there_lab ht
      obtain ⟨n, w, rfl, hgw, hge, hln⟩ := there_get ht
      have l1 : ((j : Int) < (xs.length : Int)) = True := by simpa using hj
      have l2 : (0 ≤ (j : Int)) = True := by simp
      have l3 := wrN j (by omega)
      have l4 : (0 ≤ (n : Int)) = True := by simp
      rcases lab_cases lv with rfl | rfl | rfl | rfl | h'
      · have hn : w0[n]? = some w := by simpa [A4.get] using hgw
        have hlt : ((n : Int) < (w0.length : Int)) = True := by simpa [A4.get] using hln
        simp only [goodR, hge] at hgd
        simp only [Bool.and_eq_true, Bool.or_eq_true, decide_eq_true_eq] at hgd
        obtain ⟨g1, g2⟩ := hgd
        have f1 : decide (w.ver = vr) = true := by simpa using g1
        by_cases hk : w.lock = 0
        · have f2 : decide (w.lock = 0) = true := by simpa using hk
          simp +contextual -dsimp -implicitDefEqProofs (maxSteps := 5000000) only [l1, l2, l3, l4, hxj, hn, hlt, f1, f2, ↓un_c (c32_1.eq_1), go_sem, simprocAttr]
          rw [gl_heap0 (by rfl)]; exact hl
        · have f2 : decide (w.lock = 0) = false := by simpa using hk
          have f3 : decide (w.lock = id + 1) = true := by simpa [hk] using g2
          simp +contextual -dsimp -implicitDefEqProofs (maxSteps := 5000000) only [l1, l2, l3, l4, hxj, hn, hlt, f1, f2, f3, hwid, ↓un_c (c32_1.eq_1), go_sem, simprocAttr]
          rw [gl_heap0 (by rfl)]; exact hl
      · have hn : w1[n]? = some w := by simpa [A4.get] using hgw
        have hlt : ((n : Int) < (w1.length : Int)) = True := by simpa [A4.get] using hln
        simp only [goodR, hge] at hgd
        simp only [Bool.and_eq_true, Bool.or_eq_true, decide_eq_true_eq] at hgd
        obtain ⟨g1, g2⟩ := hgd
        have f1 : decide (w.ver = vr) = true := by simpa using g1
        by_cases hk : w.lock = 0
        · have f2 : decide (w.lock = 0) = true := by simpa using hk
          simp +contextual -dsimp -implicitDefEqProofs (maxSteps := 5000000) only [l1, l2, l3, l4, hxj, hn, hlt, f1, f2, ↓un_c (c32_1.eq_1), go_sem, simprocAttr]
          rw [gl_heap0 (by rfl)]; exact hl
        · have f2 : decide (w.lock = 0) = false := by simpa using hk
          have f3 : decide (w.lock = id + 1) = true := by simpa [hk] using g2
          simp +contextual -dsimp -implicitDefEqProofs (maxSteps := 5000000) only [l1, l2, l3, l4, hxj, hn, hlt, f1, f2, f3, hwid, ↓un_c (c32_1.eq_1), go_sem, simprocAttr]
          rw [gl_heap0 (by rfl)]; exact hl
      · have hn : w2[n]? = some w := by simpa [A4.get] using hgw
        have hlt : ((n : Int) < (w2.length : Int)) = True := by simpa [A4.get] using hln
        simp only [goodR, hge] at hgd
        simp only [Bool.and_eq_true, Bool.or_eq_true, decide_eq_true_eq] at hgd
        obtain ⟨g1, g2⟩ := hgd
        have f1 : decide (w.ver = vr) = true := by simpa using g1
        by_cases hk : w.lock = 0
        · have f2 : decide (w.lock = 0) = true := by simpa using hk
          simp +contextual -dsimp -implicitDefEqProofs (maxSteps := 5000000) only [l1, l2, l3, l4, hxj, hn, hlt, f1, f2, ↓un_c (c32_1.eq_1), go_sem, simprocAttr]
          rw [gl_heap0 (by rfl)]; exact hl
        · have f2 : decide (w.lock = 0) = false := by simpa using hk
          have f3 : decide (w.lock = id + 1) = true := by simpa [hk] using g2
          simp +contextual -dsimp -implicitDefEqProofs (maxSteps := 5000000) only [l1, l2, l3, l4, hxj, hn, hlt, f1, f2, f3, hwid, ↓un_c (c32_1.eq_1), go_sem, simprocAttr]
          rw [gl_heap0 (by rfl)]; exact hl
      · have hn : w3[n]? = some w := by simpa [A4.get] using hgw
        have hlt : ((n : Int) < (w3.length : Int)) = True := by simpa [A4.get] using hln
        simp only [goodR, hge] at hgd
        simp only [Bool.and_eq_true, Bool.or_eq_true, decide_eq_true_eq] at hgd
        obtain ⟨g1, g2⟩ := hgd
        have f1 : decide (w.ver = vr) = true := by simpa using g1
        by_cases hk : w.lock = 0
        · have f2 : decide (w.lock = 0) = true := by simpa using hk
          simp +contextual -dsimp -implicitDefEqProofs (maxSteps := 5000000) only [l1, l2, l3, l4, hxj, hn, hlt, f1, f2, ↓un_c (c32_1.eq_1), go_sem, simprocAttr]
          rw [gl_heap0 (by rfl)]; exact hl
        · have f2 : decide (w.lock = 0) = false := by simpa using hk
          have f3 : decide (w.lock = id + 1) = true := by simpa [hk] using g2
          simp +contextual -dsimp -implicitDefEqProofs (maxSteps := 5000000) only [l1, l2, l3, l4, hxj, hn, hlt, f1, f2, f3, hwid, ↓un_c (c32_1.eq_1), go_sem, simprocAttr]
          rw [gl_heap0 (by rfl)]; exact hl
      · rw [hlb] at h'; cases h'
    · intro j kk hj hgd _
      have hxj : xs[j]? = some (xs.getD j ⟨0, 0, 0⟩) := by simp [List.getD_eq_getElem?_getD, hj]
      generalize xs.getD j ⟨0, 0, 0⟩ = x at hxj hgd
      obtain ⟨lv, ix, vr⟩ := x
      have ht := all_get hth hxj
      simp only at ht
      have hlb := there_lab ht
      obtain ⟨n, w, rfl, hgw, hge, hln⟩ := there_get ht
      have l1 : ((j : Int) < (xs.length : Int)) = True := by simpa using hj
      have l2 : (0 ≤ (j : Int)) = True := by simp
      have l3 := wrN j (by omega)
      have l4 : (0 ≤ (n : Int)) = True := by simp
      have hf : (xs.all (goodR ⟨w0, w1, w2, w3⟩ id)) = false := all_false _ hxj hgd
      rcases lab_cases lv with rfl | rfl | rfl | rfl | h'
      · have hn : w0[n]? = some w := by simpa [A4.get] using hgw
        have hlt : ((n : Int) < (w0.length : Int)) = True := by simpa [A4.get] using hln
        simp only [goodR, hge] at hgd
        by_cases f1 : w.ver = vr
        · have f1' : decide (w.ver = vr) = true := by simpa using f1
          have f2 : decide (w.lock = 0) = false := by simp [f1] at hgd; simpa using hgd.1
          have f3 : decide (w.lock = id + 1) = false := by simp [f1] at hgd; simpa using hgd.2
          simp +contextual -dsimp -implicitDefEqProofs (maxSteps := 5000000) only [l1, l2, l3, l4, hxj, hn, hlt, f1', f2, f3, hwid, hf, ↓un_c (c32_1.eq_1), go_sem, simprocAttr]
        · have f1' : decide (w.ver = vr) = false := by simpa using f1
          simp +contextual -dsimp -implicitDefEqProofs (maxSteps := 5000000) only [l1, l2, l3, l4, hxj, hn, hlt, f1', hf, ↓un_c (c32_1.eq_1), go_sem, simprocAttr]
      · have hn : w1[n]? = some w := by simpa [A4.get] using hgw
        have hlt : ((n : Int) < (w1.length : Int)) = True := by simpa [A4.get] using hln
        simp only [goodR, hge] at hgd
        by_cases f1 : w.ver = vr
        · have f1' : decide (w.ver = vr) = true := by simpa using f1
          have f2 : decide (w.lock = 0) = false := by simp [f1] at hgd; simpa using hgd.1
          have f3 : decide (w.lock = id + 1) = false := by simp [f1] at hgd; simpa using hgd.2
          simp +contextual -dsimp -implicitDefEqProofs (maxSteps := 5000000) only [l1, l2, l3, l4, hxj, hn, hlt, f1', f2, f3, hwid, hf, ↓un_c (c32_1.eq_1), go_sem, simprocAttr]
        · have f1' : decide (w.ver = vr) = false := by simpa using f1
          simp +contextual -dsimp -implicitDefEqProofs (maxSteps := 5000000) only [l1, l2, l3, l4, hxj, hn, hlt, f1', hf, ↓un_c (c32_1.eq_1), go_sem, simprocAttr]
      · have hn : w2[n]? = some w := by simpa [A4.get] using hgw
        have hlt : ((n : Int) < (w2.length : Int)) = True := by simpa [A4.get] using hln
        simp only [goodR, hge] at hgd
        by_cases f1 : w.ver = vr
        · have f1' : decide (w.ver = vr) = true := by simpa using f1
          have f2 : decide (w.lock = 0) = false := by simp [f1] at hgd; simpa using hgd.1
          have f3 : decide (w.lock = id + 1) = false := by simp [f1] at hgd; simpa using hgd.2
          simp +contextual -dsimp -implicitDefEqProofs (maxSteps := 5000000) only [l1, l2, l3, l4, hxj, hn, hlt, f1', f2, f3, hwid, hf, ↓un_c (c32_1.eq_1), go_sem, simprocAttr]
        · have f1' : decide (w.ver = vr) = false := by simpa using f1
          simp +contextual -dsimp -implicitDefEqProofs (maxSteps := 5000000) only [l1, l2, l3, l4, hxj, hn, hlt, f1', hf, ↓un_c (c32_1.eq_1), go_sem, simprocAttr]
      · have hn : w3[n]? = some w := by simpa [A4.get] using hgw
        have hlt : ((n : Int) < (w3.length : Int)) = True := by simpa [A4.get] using hln
        simp only [goodR, hge] at hgd
        by_cases f1 : w.ver = vr
        · have f1' : decide (w.ver = vr) = true := by simpa using f1
          have f2 : decide (w.lock = 0) = false := by simp [f1] at hgd; simpa using hgd.1
          have f3 : decide (w.lock = id + 1) = false := by simp [f1] at hgd; simpa using hgd.2
          simp +contextual -dsimp -implicitDefEqProofs (maxSteps := 5000000) only [l1, l2, l3, l4, hxj, hn, hlt, f1', f2, f3, hwid, hf, ↓un_c (c32_1.eq_1), go_sem, simprocAttr]
        · have f1' : decide (w.ver = vr) = false := by simpa using f1
          simp +contextual -dsimp -implicitDefEqProofs (maxSteps := 5000000) only [l1, l2, l3, l4, hxj, hn, hlt, f1', hf, ↓un_c (c32_1.eq_1), go_sem, simprocAttr]
      · rw [hlb] at h'; cases h'
    · intro kk hall
      have l0 : decide ((xs.length : Int) < (xs.length : Int)) = false := by simp
      have hf : (xs.all (goodR ⟨w0, w1, w2, w3⟩ id)) = true := all_range _ ⟨0, 0, 0⟩ _ hall
      simp +contextual -dsimp -implicitDefEqProofs (maxSteps := 5000000) only [l0, hf, ↓un_c (c32_1.eq_1), go_sem, simprocAttr]

theorem any_true {α : Type} (p : α → Bool) {l : List α} {j : Nat} {x : α} (hx : l[j]? = some x) (h : p x = true) : l.any p = true :=
  List.any_eq_true.2 ⟨x, List.mem_of_getElem? hx, h⟩
theorem any_range {α : Type} (p : α → Bool) (d : α) (l : List α) (h : ∀ j, j < l.length → p (l.getD j d) = false) : l.any p = false := by
  rw [List.any_eq_false]
  intro x hx
  obtain ⟨j, hj, rfl⟩ := List.mem_iff_getElem.1 hx
  have := h j hj
  simpa [List.getD_eq_getElem?_getD, hj] using this

theorem r_changed (i : Nat) (a b c d na nb nc nd : Bool) (w0 w1 w2 w3 : List TWord) (h0 : w0.length ≤ BB) (h1 : w1.length ≤ BB) (h2 : w2.length ≤ BB) (h3 : w3.length ≤ BB) (pf nn : Bool) (xs : List TRead) (hx : xs.length ≤ BB) : pureOf (Lv ctx (i + 5)) 24 [.agg [.isl a na 3 (w0.map eW), .isl b nb 3 (w1.map eW), .isl c nc 3 (w2.map eW), .isl d nd 3 (w3.map eW)], .isl pf nn 3 (xs.map eR)] = some (.tup [bV (changedM ⟨w0, w1, w2, w3⟩ xs).1, iV (changedM ⟨w0, w1, w2, w3⟩ xs).2]) := by
  have q1 := r_arena (i + 0) a b c d na nb nc nd w0 w1 w2 w3 h0 h1 h2 h3
  have q2 := r_reads (i + 0) pf nn xs hx
  have q3 := r_rthere (i + 0) pf nn xs hx a b c d na nb nc nd w0 w1 w2 w3
  simp only [Nat.add_assoc, Nat.reduceAdd] at q1 q2 q3
  cases hc : (arenaMay ⟨w0, w1, w2, w3⟩ && readsMay xs && readsThere ⟨w0, w1, w2, w3⟩ xs)
  · have e : changedM ⟨w0, w1, w2, w3⟩ xs = (false, 900) := by simp only [changedM]; rw [hc]; rfl
    rw [e]
    refine sp_of rfl (xs.length + 1) (by rfl) ?_
    delta c24
    simp +contextual -dsimp -implicitDefEqProofs (maxSteps := 5000000) only [q1, q2, q3, nn2, hc, go_sem, simprocAttr]
  · have hcc := hc
    simp only [Bool.and_eq_true] at hcc
    have hth : readsThere ⟨w0, w1, w2, w3⟩ xs = true := by simp only [hcc]
    have e : changedM ⟨w0, w1, w2, w3⟩ xs = (xs.any (chgR ⟨w0, w1, w2, w3⟩), 0) := by simp only [changedM]; rw [hc]; rfl
    rw [e]
    refine sp_of rfl (xs.length + 1) (by rfl) ?_
    delta c24
    simp +contextual -dsimp -implicitDefEqProofs (maxSteps := 5000000) only [q1, q2, q3, nn2, hc, go_sem, simprocAttr]
    refine gl_all (S := fun j => ⟨ofLive [1, 2, 6] [.isl pf nn 3 (xs.map eR), .ip (a && (b && (c && d))) [.isl a na 3 (w0.map eW), .isl b nb 3 (w1.map eW), .isl c nc 3 (w2.map eW), .isl d nd 3 (w3.map eW)] 0, iV j], emptyHp, 0⟩) xs.length (fun j => !(chgR ⟨w0, w1, w2, w3⟩ (xs.getD j ⟨0, 0, 0⟩))) rfl (by omega) ?_ ?_ ?_
    · intro j kk hj hgd hl
      have hxj : xs[j]? = some (xs.getD j ⟨0, 0, 0⟩) := by simp [List.getD_eq_getElem?_getD, hj]
      generalize xs.getD j ⟨0, 0, 0⟩ = x at hxj hgd
      obtain ⟨lv, ix, vr⟩ := x
      have ht := all_get hth hxj
      simp only at ht
      have hlb := there_lab ht
      obtain ⟨n, w, rfl, hgw, hge, hln⟩ := there_get ht
      have l1 : ((j : Int) < (xs.length : Int)) = True := by simpa using hj
      have l2 : (0 ≤ (j : Int)) = True := by simp
      have l3 := wrN j (by omega)
      have l4 : (0 ≤ (n : Int)) = True := by simp
      rcases lab_cases lv with rfl | rfl | rfl | rfl | h'
      · have hn : w0[n]? = some w := by simpa [A4.get] using hgw
        have hlt : ((n : Int) < (w0.length : Int)) = True := by simpa [A4.get] using hln
        have f1 : decide (w.ver = vr) = true := by simp only [chgR, hge] at hgd; simpa using hgd
        simp +contextual -dsimp -implicitDefEqProofs (maxSteps := 5000000) only [l1, l2, l3, l4, hxj, hn, hlt, f1, ↓un_c (c24_1.eq_1), go_sem, simprocAttr]
        exact hl
      · have hn : w1[n]? = some w := by simpa [A4.get] using hgw
        have hlt : ((n : Int) < (w1.length : Int)) = True := by simpa [A4.get] using hln
        have f1 : decide (w.ver = vr) = true := by simp only [chgR, hge] at hgd; simpa using hgd
        simp +contextual -dsimp -implicitDefEqProofs (maxSteps := 5000000) only [l1, l2, l3, l4, hxj, hn, hlt, f1, ↓un_c (c24_1.eq_1), go_sem, simprocAttr]
        exact hl
      · have hn : w2[n]? = some w := by simpa [A4.get] using hgw
        have hlt : ((n : Int) < (w2.length : Int)) = True := by simpa [A4.get] using hln
        have f1 : decide (w.ver = vr) = true := by simp only [chgR, hge] at hgd; simpa using hgd
        simp +contextual -dsimp -implicitDefEqProofs (maxSteps := 5000000) only [l1, l2, l3, l4, hxj, hn, hlt, f1, ↓un_c (c24_1.eq_1), go_sem, simprocAttr]
        exact hl
      · have hn : w3[n]? = some w := by simpa [A4.get] using hgw
        have hlt : ((n : Int) < (w3.length : Int)) = True := by simpa [A4.get] using hln
        have f1 : decide (w.ver = vr) = true := by simp only [chgR, hge] at hgd; simpa using hgd
        simp +contextual -dsimp -implicitDefEqProofs (maxSteps := 5000000) only [l1, l2, l3, l4, hxj, hn, hlt, f1, ↓un_c (c24_1.eq_1), go_sem, simprocAttr]
        exact hl
      · rw [hlb] at h'; cases h'
    · intro j kk hj hgd _
      have hxj : xs[j]? = some (xs.getD j ⟨0, 0, 0⟩) := by simp [List.getD_eq_getElem?_getD, hj]
      generalize xs.getD j ⟨0, 0, 0⟩ = x at hxj hgd
      obtain ⟨lv, ix, vr⟩ := x
      have ht := all_get hth hxj
      simp only at ht
      have hlb := there_lab ht
      obtain ⟨n, w, rfl, hgw, hge, hln⟩ := there_get ht
      have l1 : ((j : Int) < (xs.length : Int)) = True := by simpa using hj
      have l2 : (0 ≤ (j : Int)) = True := by simp
      have l3 := wrN j (by omega)
      have l4 : (0 ≤ (n : Int)) = True := by simp
      have hf : (xs.any (chgR ⟨w0, w1, w2, w3⟩)) = true := any_true _ hxj (by simpa using hgd)
      rcases lab_cases lv with rfl | rfl | rfl | rfl | h'
      · have hn : w0[n]? = some w := by simpa [A4.get] using hgw
        have hlt : ((n : Int) < (w0.length : Int)) = True := by simpa [A4.get] using hln
        have f1 : decide (w.ver = vr) = false := by simp only [chgR, hge] at hgd; simpa using hgd
        simp +contextual -dsimp -implicitDefEqProofs (maxSteps := 5000000) only [l1, l2, l3, l4, hxj, hn, hlt, f1, hf, ↓un_c (c24_1.eq_1), go_sem, simprocAttr]
      · have hn : w1[n]? = some w := by simpa [A4.get] using hgw
        have hlt : ((n : Int) < (w1.length : Int)) = True := by simpa [A4.get] using hln
        have f1 : decide (w.ver = vr) = false := by simp only [chgR, hge] at hgd; simpa using hgd
        simp +contextual -dsimp -implicitDefEqProofs (maxSteps := 5000000) only [l1, l2, l3, l4, hxj, hn, hlt, f1, hf, ↓un_c (c24_1.eq_1), go_sem, simprocAttr]
      · have hn : w2[n]? = some w := by simpa [A4.get] using hgw
        have hlt : ((n : Int) < (w2.length : Int)) = True := by simpa [A4.get] using hln
        have f1 : decide (w.ver = vr) = false := by simp only [chgR, hge] at hgd; simpa using hgd
        simp +contextual -dsimp -implicitDefEqProofs (maxSteps := 5000000) only [l1, l2, l3, l4, hxj, hn, hlt, f1, hf, ↓un_c (c24_1.eq_1), go_sem, simprocAttr]
      · have hn : w3[n]? = some w := by simpa [A4.get] using hgw
        have hlt : ((n : Int) < (w3.length : Int)) = True := by simpa [A4.get] using hln
        have f1 : decide (w.ver = vr) = false := by simp only [chgR, hge] at hgd; simpa using hgd
        simp +contextual -dsimp -implicitDefEqProofs (maxSteps := 5000000) only [l1, l2, l3, l4, hxj, hn, hlt, f1, hf, ↓un_c (c24_1.eq_1), go_sem, simprocAttr]
      · rw [hlb] at h'; cases h'
    · intro kk hall
      have l0 : decide ((xs.length : Int) < (xs.length : Int)) = false := by simp
      have hf : (xs.any (chgR ⟨w0, w1, w2, w3⟩)) = false := any_range _ ⟨0, 0, 0⟩ _ (fun j hj => by simpa using hall j hj)
      simp +contextual -dsimp -implicitDefEqProofs (maxSteps := 5000000) only [l0, hf, ↓un_c (c24_1.eq_1), go_sem, simprocAttr]
end Ve
