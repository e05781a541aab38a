/- Undoing: the reference's. -/
import Derived.Test.YtapgmjgledahiaaGreatS16
set_option linter.all false
set_option linter.unusedSectionVars false
namespace Ve
open Go Ve.Ab
set_option maxHeartbeats 16000000
set_option maxRecDepth 10000
theorem ao_nil (ms : List Bool) : argsOwn ms [] = .ret ([], []) := by cases ms <;> rfl
theorem ao_t (ms : List Bool) (v : V) (r : List V) : argsOwn (true :: ms) (v :: r) = (close 0 6 v).bind fun x => if x.1.perm then (argsOwn ms r).bind fun y => .ret (x.1 :: y.1, x.2 ++ y.2) else .fail := (rfl)
theorem ao_f (ms : List Bool) (v : V) (r : List V) : argsOwn (false :: ms) (v :: r) = if v.perm then (argsOwn ms r).bind fun y => .ret (v :: y.1, y.2) else .fail := (rfl)
theorem ao_0 (v : V) (r : List V) : argsOwn [] (v :: r) = if v.perm then (argsOwn [] r).bind fun y => .ret (v :: y.1, y.2) else .fail := (rfl)
attribute [go_sem] ao_nil ao_t ao_f ao_0


theorem lr_free0 (i k : Nat) (m : TMach) (hm : SmM m) (at_ id c : Int) (hc : IntKind.wrap .i64 (id + 1) = c) (q : Out → St → Option Ans) (Q : V → Hp → Nat → Prop) : ∀ (suf pre : List TWord) (kk : Nat), m.words.a0 = pre ++ suf → suf.length < kk + 1 →
    Fin (evC ctx (Lv ctx (i + 2)) (pureOf (Lv ctx (i + 2))) k c82_1 ⟨ofLive [1, 4, 5, 6, 7, 8] [iV at_, .ptr 0 0 0, .ptr 7 0 0, iV id, iV 0, iV pre.length], hF m ((pre.map (freeW c)).map eW ++ suf.map eW) (m.words.a1.map eW) (m.words.a2.map eW) (m.words.a3.map eW), 8⟩ (restK [1, 4, 5, 6, 7, 8] fun o s => thenK (evLoop 8 [1, 4, 5, 6, 7, 8] (fun s q => evC ctx (Lv ctx (i + 2)) (pureOf (Lv ctx (i + 2))) k c82_1 s (restK [1, 4, 5, 6, 7, 8] q)) q kk) q o s)) Q = Fin (q (.exit 2) ⟨ofLive [1, 4, 5, 6, 7] [iV at_, .ptr 0 0 0, .ptr 7 0 0, iV id, iV 0], hF m ((m.words.a0.map (freeW c)).map eW) (m.words.a1.map eW) (m.words.a2.map eW) (m.words.a3.map eW), 8⟩) Q
  | [], pre, kk, hxs, hk => by
    have h1 : decide ((pre.length : Int) < (pre.length : Int)) = false := by simp
    have h2 : m.words.a0 = pre := by simp [hxs]
    rw [un_c (c82_1.eq_1)]
    simp only [List.map_nil, List.append_nil]
    rw [h2]
    simp +contextual -dsimp -implicitDefEqProofs (maxSteps := 5000000) only [h1, List.length_map, go_sem, simprocAttr]
    all_goals (try rfl)
  | a :: suf, pre, kk, hxs, hk => by
    obtain ⟨kk, rfl⟩ : ∃ m, kk = m + 1 := ⟨kk - 1, by simp at hk; omega⟩
    have h2 : ((pre.length : Int) < ((((pre.map (freeW c)).map eW ++ (a :: suf).map eW).length : Nat) : Int)) = True := by simp; omega
    have h2' : ((pre.length : Int) < ((pre.length + (suf.length + 1) : Nat) : Int)) = True := by simp; omega
    have h3 : (0 ≤ (pre.length : Int)) = True := by simp
    have h4 := wrN pre.length (by have := hm.w0; rw [hxs] at this; simp at this; omega)
    have hg : ((pre.map (freeW c)).map eW ++ (a :: suf).map eW)[pre.length]? = some (eW a) := by simp
    have hset : ∀ x, ((pre.map (freeW c)).map eW ++ (a :: suf).map eW).set pre.length x = (pre.map (freeW c)).map eW ++ x :: suf.map eW := by intro x; simp [List.set_append]
    have ih := lr_free0 i k m hm at_ id c hc q Q suf (pre ++ [a]) kk (by simp [hxs]) (by simpa using hk)
    simp only [append_len1, List.map_append, List.map_cons, List.map_nil, List.append_assoc, List.cons_append, List.nil_append] at ih
    by_cases hlk : a.lock = c
    · have h5 : decide (a.lock = c) = true := by simpa using hlk
      simp only [freeW, hlk, if_true, eW] at ih
      simp only [eW, List.map_cons, freeW] at h2 hg hset ⊢
      rw [un_c (c82_1.eq_1)]
      simp +contextual -dsimp -implicitDefEqProofs (maxSteps := 5000000) only [h2, h2', h3, h4, hg, hset, hc, h5, gLs, go_sem, simprocAttr]
      exact ih
    · have h5 : decide (a.lock = c) = false := by simpa using hlk
      simp only [freeW, hlk, if_false, eW] at ih
      simp only [eW, List.map_cons, freeW] at h2 hg hset ⊢
      rw [un_c (c82_1.eq_1)]
      simp +contextual -dsimp -implicitDefEqProofs (maxSteps := 5000000) only [h2, h2', h3, h4, hg, hset, hc, h5, gLs, go_sem, simprocAttr]
      exact ih


theorem lr_free1 (i k : Nat) (m : TMach) (hm : SmM m) (at_ id c : Int) (hc : IntKind.wrap .i64 (id + 1) = c) (q : Out → St → Option Ans) (Q : V → Hp → Nat → Prop) : ∀ (suf pre : List TWord) (kk : Nat), m.words.a1 = pre ++ suf → suf.length < kk + 1 →
    Fin (evC ctx (Lv ctx (i + 2)) (pureOf (Lv ctx (i + 2))) k c82_1 ⟨ofLive [1, 4, 5, 6, 7, 8] [iV at_, .ptr 0 0 0, .ptr 7 0 0, iV id, iV 1, iV pre.length], hF m ((m.words.a0.map (freeW c)).map eW) ((pre.map (freeW c)).map eW ++ suf.map eW) (m.words.a2.map eW) (m.words.a3.map eW), 8⟩ (restK [1, 4, 5, 6, 7, 8] fun o s => thenK (evLoop 8 [1, 4, 5, 6, 7, 8] (fun s q => evC ctx (Lv ctx (i + 2)) (pureOf (Lv ctx (i + 2))) k c82_1 s (restK [1, 4, 5, 6, 7, 8] q)) q kk) q o s)) Q = Fin (q (.exit 2) ⟨ofLive [1, 4, 5, 6, 7] [iV at_, .ptr 0 0 0, .ptr 7 0 0, iV id, iV 1], hF m ((m.words.a0.map (freeW c)).map eW) ((m.words.a1.map (freeW c)).map eW) (m.words.a2.map eW) (m.words.a3.map eW), 8⟩) Q
  | [], pre, kk, hxs, hk => by
    have h1 : decide ((pre.length : Int) < (pre.length : Int)) = false := by simp
    have h2 : m.words.a1 = pre := by simp [hxs]
    rw [un_c (c82_1.eq_1)]
    simp only [List.map_nil, List.append_nil]
    rw [h2]
    simp +contextual -dsimp -implicitDefEqProofs (maxSteps := 5000000) only [h1, List.length_map, go_sem, simprocAttr]
    all_goals (try rfl)
  | a :: suf, pre, kk, hxs, hk => by
    obtain ⟨kk, rfl⟩ : ∃ m, kk = m + 1 := ⟨kk - 1, by simp at hk; omega⟩
    have h2 : ((pre.length : Int) < ((((pre.map (freeW c)).map eW ++ (a :: suf).map eW).length : Nat) : Int)) = True := by simp; omega
    have h2' : ((pre.length : Int) < ((pre.length + (suf.length + 1) : Nat) : Int)) = True := by simp; omega
    have h3 : (0 ≤ (pre.length : Int)) = True := by simp
    have h4 := wrN pre.length (by have := hm.w1; rw [hxs] at this; simp at this; omega)
    have hg : ((pre.map (freeW c)).map eW ++ (a :: suf).map eW)[pre.length]? = some (eW a) := by simp
    have hset : ∀ x, ((pre.map (freeW c)).map eW ++ (a :: suf).map eW).set pre.length x = (pre.map (freeW c)).map eW ++ x :: suf.map eW := by intro x; simp [List.set_append]
    have ih := lr_free1 i k m hm at_ id c hc q Q suf (pre ++ [a]) kk (by simp [hxs]) (by simpa using hk)
    simp only [append_len1, List.map_append, List.map_cons, List.map_nil, List.append_assoc, List.cons_append, List.nil_append] at ih
    by_cases hlk : a.lock = c
    · have h5 : decide (a.lock = c) = true := by simpa using hlk
      simp only [freeW, hlk, if_true, eW] at ih
      simp only [eW, List.map_cons, freeW] at h2 hg hset ⊢
      rw [un_c (c82_1.eq_1)]
      simp +contextual -dsimp -implicitDefEqProofs (maxSteps := 5000000) only [h2, h2', h3, h4, hg, hset, hc, h5, gLs, go_sem, simprocAttr]
      exact ih
    · have h5 : decide (a.lock = c) = false := by simpa using hlk
      simp only [freeW, hlk, if_false, eW] at ih
      simp only [eW, List.map_cons, freeW] at h2 hg hset ⊢
      rw [un_c (c82_1.eq_1)]
      simp +contextual -dsimp -implicitDefEqProofs (maxSteps := 5000000) only [h2, h2', h3, h4, hg, hset, hc, h5, gLs, go_sem, simprocAttr]
      exact ih


theorem lr_free2 (i k : Nat) (m : TMach) (hm : SmM m) (at_ id c : Int) (hc : IntKind.wrap .i64 (id + 1) = c) (q : Out → St → Option Ans) (Q : V → Hp → Nat → Prop) : ∀ (suf pre : List TWord) (kk : Nat), m.words.a2 = pre ++ suf → suf.length < kk + 1 →
    Fin (evC ctx (Lv ctx (i + 2)) (pureOf (Lv ctx (i + 2))) k c82_1 ⟨ofLive [1, 4, 5, 6, 7, 8] [iV at_, .ptr 0 0 0, .ptr 7 0 0, iV id, iV 2, iV pre.length], hF m ((m.words.a0.map (freeW c)).map eW) ((m.words.a1.map (freeW c)).map eW) ((pre.map (freeW c)).map eW ++ suf.map eW) (m.words.a3.map eW), 8⟩ (restK [1, 4, 5, 6, 7, 8] fun o s => thenK (evLoop 8 [1, 4, 5, 6, 7, 8] (fun s q => evC ctx (Lv ctx (i + 2)) (pureOf (Lv ctx (i + 2))) k c82_1 s (restK [1, 4, 5, 6, 7, 8] q)) q kk) q o s)) Q = Fin (q (.exit 2) ⟨ofLive [1, 4, 5, 6, 7] [iV at_, .ptr 0 0 0, .ptr 7 0 0, iV id, iV 2], hF m ((m.words.a0.map (freeW c)).map eW) ((m.words.a1.map (freeW c)).map eW) ((m.words.a2.map (freeW c)).map eW) (m.words.a3.map eW), 8⟩) Q
  | [], pre, kk, hxs, hk => by
    have h1 : decide ((pre.length : Int) < (pre.length : Int)) = false := by simp
    have h2 : m.words.a2 = pre := by simp [hxs]
    rw [un_c (c82_1.eq_1)]
    simp only [List.map_nil, List.append_nil]
    rw [h2]
    simp +contextual -dsimp -implicitDefEqProofs (maxSteps := 5000000) only [h1, List.length_map, go_sem, simprocAttr]
    all_goals (try rfl)
  | a :: suf, pre, kk, hxs, hk => by
    obtain ⟨kk, rfl⟩ : ∃ m, kk = m + 1 := ⟨kk - 1, by simp at hk; omega⟩
    have h2 : ((pre.length : Int) < ((((pre.map (freeW c)).map eW ++ (a :: suf).map eW).length : Nat) : Int)) = True := by simp; omega
    have h2' : ((pre.length : Int) < ((pre.length + (suf.length + 1) : Nat) : Int)) = True := by simp; omega
    have h3 : (0 ≤ (pre.length : Int)) = True := by simp
    have h4 := wrN pre.length (by have := hm.w2; rw [hxs] at this; simp at this; omega)
    have hg : ((pre.map (freeW c)).map eW ++ (a :: suf).map eW)[pre.length]? = some (eW a) := by simp
    have hset : ∀ x, ((pre.map (freeW c)).map eW ++ (a :: suf).map eW).set pre.length x = (pre.map (freeW c)).map eW ++ x :: suf.map eW := by intro x; simp [List.set_append]
    have ih := lr_free2 i k m hm at_ id c hc q Q suf (pre ++ [a]) kk (by simp [hxs]) (by simpa using hk)
    simp only [append_len1, List.map_append, List.map_cons, List.map_nil, List.append_assoc, List.cons_append, List.nil_append] at ih
    by_cases hlk : a.lock = c
    · have h5 : decide (a.lock = c) = true := by simpa using hlk
      simp only [freeW, hlk, if_true, eW] at ih
      simp only [eW, List.map_cons, freeW] at h2 hg hset ⊢
      rw [un_c (c82_1.eq_1)]
      simp +contextual -dsimp -implicitDefEqProofs (maxSteps := 5000000) only [h2, h2', h3, h4, hg, hset, hc, h5, gLs, go_sem, simprocAttr]
      exact ih
    · have h5 : decide (a.lock = c) = false := by simpa using hlk
      simp only [freeW, hlk, if_false, eW] at ih
      simp only [eW, List.map_cons, freeW] at h2 hg hset ⊢
      rw [un_c (c82_1.eq_1)]
      simp +contextual -dsimp -implicitDefEqProofs (maxSteps := 5000000) only [h2, h2', h3, h4, hg, hset, hc, h5, gLs, go_sem, simprocAttr]
      exact ih


theorem lr_free3 (i k : Nat) (m : TMach) (hm : SmM m) (at_ id c : Int) (hc : IntKind.wrap .i64 (id + 1) = c) (q : Out → St → Option Ans) (Q : V → Hp → Nat → Prop) : ∀ (suf pre : List TWord) (kk : Nat), m.words.a3 = pre ++ suf → suf.length < kk + 1 →
    Fin (evC ctx (Lv ctx (i + 2)) (pureOf (Lv ctx (i + 2))) k c82_1 ⟨ofLive [1, 4, 5, 6, 7, 8] [iV at_, .ptr 0 0 0, .ptr 7 0 0, iV id, iV 3, iV pre.length], hF m ((m.words.a0.map (freeW c)).map eW) ((m.words.a1.map (freeW c)).map eW) ((m.words.a2.map (freeW c)).map eW) ((pre.map (freeW c)).map eW ++ suf.map eW), 8⟩ (restK [1, 4, 5, 6, 7, 8] fun o s => thenK (evLoop 8 [1, 4, 5, 6, 7, 8] (fun s q => evC ctx (Lv ctx (i + 2)) (pureOf (Lv ctx (i + 2))) k c82_1 s (restK [1, 4, 5, 6, 7, 8] q)) q kk) q o s)) Q = Fin (q (.exit 2) ⟨ofLive [1, 4, 5, 6, 7] [iV at_, .ptr 0 0 0, .ptr 7 0 0, iV id, iV 3], hF m ((m.words.a0.map (freeW c)).map eW) ((m.words.a1.map (freeW c)).map eW) ((m.words.a2.map (freeW c)).map eW) ((m.words.a3.map (freeW c)).map eW), 8⟩) Q
  | [], pre, kk, hxs, hk => by
    have h1 : decide ((pre.length : Int) < (pre.length : Int)) = false := by simp
    have h2 : m.words.a3 = pre := by simp [hxs]
    rw [un_c (c82_1.eq_1)]
    simp only [List.map_nil, List.append_nil]
    rw [h2]
    simp +contextual -dsimp -implicitDefEqProofs (maxSteps := 5000000) only [h1, List.length_map, go_sem, simprocAttr]
    all_goals (try rfl)
  | a :: suf, pre, kk, hxs, hk => by
    obtain ⟨kk, rfl⟩ : ∃ m, kk = m + 1 := ⟨kk - 1, by simp at hk; omega⟩
    have h2 : ((pre.length : Int) < ((((pre.map (freeW c)).map eW ++ (a :: suf).map eW).length : Nat) : Int)) = True := by simp; omega
    have h2' : ((pre.length : Int) < ((pre.length + (suf.length + 1) : Nat) : Int)) = True := by simp; omega
    have h3 : (0 ≤ (pre.length : Int)) = True := by simp
    have h4 := wrN pre.length (by have := hm.w3; rw [hxs] at this; simp at this; omega)
    have hg : ((pre.map (freeW c)).map eW ++ (a :: suf).map eW)[pre.length]? = some (eW a) := by simp
    have hset : ∀ x, ((pre.map (freeW c)).map eW ++ (a :: suf).map eW).set pre.length x = (pre.map (freeW c)).map eW ++ x :: suf.map eW := by intro x; simp [List.set_append]
    have ih := lr_free3 i k m hm at_ id c hc q Q suf (pre ++ [a]) kk (by simp [hxs]) (by simpa using hk)
    simp only [append_len1, List.map_append, List.map_cons, List.map_nil, List.append_assoc, List.cons_append, List.nil_append] at ih
    by_cases hlk : a.lock = c
    · have h5 : decide (a.lock = c) = true := by simpa using hlk
      simp only [freeW, hlk, if_true, eW] at ih
      simp only [eW, List.map_cons, freeW] at h2 hg hset ⊢
      rw [un_c (c82_1.eq_1)]
      simp +contextual -dsimp -implicitDefEqProofs (maxSteps := 5000000) only [h2, h2', h3, h4, hg, hset, hc, h5, gLs, go_sem, simprocAttr]
      exact ih
    · have h5 : decide (a.lock = c) = false := by simpa using hlk
      simp only [freeW, hlk, if_false, eW] at ih
      simp only [eW, List.map_cons, freeW] at h2 hg hset ⊢
      rw [un_c (c82_1.eq_1)]
      simp +contextual -dsimp -implicitDefEqProofs (maxSteps := 5000000) only [h2, h2', h3, h4, hg, hset, hc, h5, gLs, go_sem, simprocAttr]
      exact ih


theorem r_loose (i : Nat) (pf : Bool) (m : TMach) (hm : SmM m) (k : Nat) (s : TSess) (hs : m.sess[k]? = some s) : pureOf (Lv ctx (i + 3)) 82 [eM pf m, iV k] = some (oM (setS (freeM (IntKind.wrap .i64 (s.id + 1)) m) k (dropS s))) := by
  have hk := get_lt hs
  have h1 : (0 ≤ (k : Int)) = True := by simp
  have h2 : ((k : Int) < (m.sess.length : Int)) = True := by simpa using hk
  have h3 : (m.sess.map oS)[k]? = some (oS s) := by simp [hs]
  have h4 : ∀ x y, ((m.sess.map oS).set k x).set k y = (m.sess.map oS).set k y := fun x y => List.set_set ..
  have h5 : ∀ x, ((m.sess.map oS).set k x)[k]? = some x := fun x => List.getElem?_set_self (by simpa using hk)
  have hc := r_copy (i + 0) pf m hm
  have l0 := fun q Q => lr_free0 i (m.words.a0.length + m.words.a1.length + m.words.a2.length + m.words.a3.length + 5) m hm k s.id (IntKind.wrap .i64 (s.id + 1)) rfl q Q m.words.a0 [] (m.words.a0.length + m.words.a1.length + m.words.a2.length + m.words.a3.length + 4) rfl (by omega)
  have l1 := fun q Q => lr_free1 i (m.words.a0.length + m.words.a1.length + m.words.a2.length + m.words.a3.length + 5) m hm k s.id (IntKind.wrap .i64 (s.id + 1)) rfl q Q m.words.a1 [] (m.words.a0.length + m.words.a1.length + m.words.a2.length + m.words.a3.length + 4) rfl (by omega)
  have l2 := fun q Q => lr_free2 i (m.words.a0.length + m.words.a1.length + m.words.a2.length + m.words.a3.length + 5) m hm k s.id (IntKind.wrap .i64 (s.id + 1)) rfl q Q m.words.a2 [] (m.words.a0.length + m.words.a1.length + m.words.a2.length + m.words.a3.length + 4) rfl (by omega)
  have l3 := fun q Q => lr_free3 i (m.words.a0.length + m.words.a1.length + m.words.a2.length + m.words.a3.length + 5) m hm k s.id (IntKind.wrap .i64 (s.id + 1)) rfl q Q m.words.a3 [] (m.words.a0.length + m.words.a1.length + m.words.a2.length + m.words.a3.length + 4) rfl (by omega)
  simp only [Nat.add_assoc, Nat.reduceAdd, oS] at hc h3
  simp only [List.map_nil, List.nil_append, List.length_nil, cast0] at l0 l1 l2 l3
  refine sp_of rfl (m.words.a0.length + m.words.a1.length + m.words.a2.length + m.words.a3.length + 5) (by rfl) ?_
  delta c82
  simp +contextual -dsimp -implicitDefEqProofs (maxSteps := 5000000) only [hc, hs, h1, h2, h3, h4, h5, gLs, ↓l0, ↓l1, ↓l2, ↓l3, l0, l1, l2, l3, ↓un_c (c82_2.eq_1), List.length_set, go_sem, simprocAttr]
  simp only [oM, cO, oWs, oSs, oEs, setS, freeM, List.map_set, dropS]
  all_goals rfl
theorem r_tell (i : Nat) (m : TMach) (k : Nat) (s : TSess) (hs : m.sess[k]? = some s) (kd vl : Int) : pureOf (Lv ctx (i + 1)) 46 [oM m, iV k, iV kd, iV vl] = some (oM (tellM m ⟨s.id, s.label, kd, vl⟩)) := by
  have hk := get_lt hs
  have h1 : (0 ≤ (k : Int)) = True := by simp
  have h2 : ((k : Int) < (m.sess.length : Int)) = True := by simpa using hk
  have h3 : (m.sess.map oS)[k]? = some (oS s) := by simp [hs]
  simp only [oS] at h3
  by_cases htr : m.trace.length < 512
  · have h6 : decide ((m.trace.length : Int) < 512) = true := by simp; omega
    have h7 : (((m.trace.length + 1 : Nat) : Int) * 32 ≤ 140737488355328) = True := by simp; omega
    refine sp_of rfl 0 (by rfl) ?_
    delta c46
    simp +contextual -dsimp -implicitDefEqProofs (maxSteps := 5000000) only [h1, h2, hs, h6, h7, go_sem, simprocAttr]
    simp only [oM, cO, oWs, oSs, oEs, tellM, htr, if_true, List.map_append]
    rfl
  · have h6 : decide ((m.trace.length : Int) < 512) = false := by simp; omega
    refine sp_of rfl 0 (by rfl) ?_
    delta c46
    simp +contextual -dsimp -implicitDefEqProofs (maxSteps := 5000000) only [h6, go_sem, simprocAttr]
    simp only [oM, cO, oWs, oSs, oEs, tellM, htr, if_false]

end Ve
