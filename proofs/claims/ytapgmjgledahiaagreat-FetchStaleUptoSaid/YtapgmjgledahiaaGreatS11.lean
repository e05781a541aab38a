/- Undoing: the program's, on. -/
import Derived.Test.YtapgmjgledahiaaGreatS10
set_option linter.all false
set_option linter.unusedSectionVars false
namespace Ve
open Go Ve.Ab
set_option maxHeartbeats 16000000
set_option maxRecDepth 10000
theorem fix_snil (L : Lay) (t : TypeId) : fixNil L t (.lit (.slice none 0 0)) = match L t with
  | some { k := .sl el, .. } => match L el with
    | some e => .own e.size []
    | none => .lit (.slice none 0 0)
  | _ => .lit (.slice none 0 0) := by
  simp only [fixNil, V.isNil, if_true]
  rcases L t with _ | ⟨_, _, _, k, _, _, _⟩
  · rfl
  · cases k <;> rfl
attribute [go_sem] fix_snil
abbrev hN (m : TMach) (a1 a2 a3 a4 : List V) (els : List V) : Hp :=
  pO (pO (pO (pO (pO (pO (pO (pO emptyHp 0 (some ⟨11, [zM], false⟩)) 1 (some ⟨3, a1, false⟩)) 2 (some ⟨3, a2, false⟩)) 3 (some ⟨3, a3, false⟩)) 4 (some ⟨3, a4, false⟩)) 5 (some ⟨17, els, false⟩)) 6 (some ⟨4, m.trace.map eE, false⟩))
    7 (some ⟨11, [.agg [.sl 1, .sl 2, .sl 3, .sl 4, iV m.clocks.a0, iV m.clocks.a1, iV m.clocks.a2, iV m.clocks.a3, iV m.ceil, .sl 5, .sl 6]], true⟩)
abbrev hT (m : TMach) (a1 a2 a3 a4 : List V) (els : List V) (e : TEvent) : Hp :=
  pO (pO (pO (pO (pO (pO (pO (pO (pO (pO emptyHp 0 (some ⟨11, [zM], false⟩)) 1 (some ⟨3, a1, false⟩)) 2 (some ⟨3, a2, false⟩)) 3 (some ⟨3, a3, false⟩)) 4 (some ⟨3, a4, false⟩)) 5 (some ⟨17, els, false⟩)) 6 none)
    7 (some ⟨11, [.agg [.sl 1, .sl 2, .sl 3, .sl 4, iV m.clocks.a0, iV m.clocks.a1, iV m.clocks.a2, iV m.clocks.a3, iV m.ceil, .sl 5, .sl 9]], true⟩)) 8 none) 9 (some ⟨4, m.trace.map eE ++ [eE e], false⟩)
theorem s_drop (i : Nat) (m : TMach) (hm : SmM m) (k : Nat) (s : TSess) (hs : m.sess[k]? = some s) : Lv ctx (i + 2) 78 [.ptr 7 0 0, iV k] (hF0 m) 8 =
    some (.ptr 5 k 0, hN m ((m.words.a0.map (freeW (IntKind.wrap .i64 (s.id + 1)))).map eW) ((m.words.a1.map (freeW (IntKind.wrap .i64 (s.id + 1)))).map eW) ((m.words.a2.map (freeW (IntKind.wrap .i64 (s.id + 1)))).map eW) ((m.words.a3.map (freeW (IntKind.wrap .i64 (s.id + 1)))).map eW) ((m.sess.map oS).set k (oS (dropS s))), 8) := by
  have hk : k < m.sess.length := by
    rcases Nat.lt_or_ge k m.sess.length with h | h
    · exact h
    · rw [List.getElem?_eq_none h] at hs; cases hs
  have h1 : (0 ≤ (k : Int)) = True := by simp
  have h2 : ((k : Int) < (m.sess.length : Int)) = True := by simpa using hk
  have h3 : (m.sess.map oS)[k]? = some (oS s) := by simp [hs]
  have h4 : ∀ x y, ((m.sess.map oS).set k x).set k y = (m.sess.map oS).set k y := fun x y => List.set_set ..
  have h5 : ∀ x, ((m.sess.map oS).set k x)[k]? = some x := fun x => List.getElem?_set_self (by simpa using hk)
  have hf := s_free i m hm s.id _ rfl
  simp only [oS] at h3
  refine inl_of rfl 0 ?_
  delta c78
  simp +contextual -dsimp -implicitDefEqProofs (maxSteps := 5000000) only [h1, h2, h3, h4, h5, hf, dropS, List.map_nil, go_sem, simprocAttr]
  rfl
theorem s_note (i : Nat) (m : TMach) (a1 a2 a3 a4 l : List V) (k : Nat) (hk : k < l.length) (id lb : Int) (rest : List V) (kd vl : Int) (htr : m.trace.length < 512) :
    Lv ctx (i + 1) 39 [.ptr 7 0 0, iV k, iV kd, iV vl] (hN m a1 a2 a3 a4 (l.set k (.agg (iV id :: iV lb :: rest)))) 8 = some (.tup [], hT m a1 a2 a3 a4 (l.set k (.agg (iV id :: iV lb :: rest))) ⟨id, lb, kd, vl⟩, 10) := by
  have h1 : (0 ≤ (k : Int)) = True := by simp
  have h2 : ((k : Int) < (l.length : Int)) = True := by simpa using hk
  have h5 : ∀ x, (l.set k x)[k]? = some x := fun x => List.getElem?_set_self hk
  have h6 : decide ((m.trace.length : Int) < 512) = true := by simp; omega
  have h7 : (((m.trace.length + 1 : Nat) : Int) * 32 ≤ 140737488355328) = True := by simp; omega
  refine inl_of rfl 0 ?_
  delta c39
  simp +contextual -dsimp -implicitDefEqProofs (maxSteps := 5000000) only [h1, h2, h5, h6, h7, List.length_set, List.replicate, go_sem, simprocAttr]
  rfl
theorem s_noteF (i : Nat) (m : TMach) (a1 a2 a3 a4 els : List V) (k : Int) (kd vl : Int) (htr : ¬ m.trace.length < 512) :
    Lv ctx (i + 1) 39 [.ptr 7 0 0, iV k, iV kd, iV vl] (hN m a1 a2 a3 a4 els) 8 = some (.tup [], hN m a1 a2 a3 a4 els, 8) := by
  have h6 : decide ((m.trace.length : Int) < 512) = false := by simp; omega
  refine inl_of rfl 0 ?_
  delta c39
  simp +contextual -dsimp -implicitDefEqProofs (maxSteps := 5000000) only [h6, go_sem, simprocAttr]

theorem s_wordValue (i : Nat) (a : Int) : pureOf (Lv ctx (i + 2)) 135 [iV a] = some (bV (inR a 255)) := s_value i a
theorem gi_step {x : Option (V × Hp × Nat)} {v : V} {h : Hp} {n : Nat} {k : V → Hp → Nat → Option Ans} {Q : V → Hp → Nat → Prop} {u : Dum k} (hx : x = some (v, h, n)) (hk : Fin (k v h n) Q) : GI x k Q u := by rw [hx]; exact hk
theorem s_again (i : Nat) (pf : Bool) (m : TMach) (hm : SmM m) (at_ kind : Int) : pureOf (Lv ctx (i + 21)) 42 [eM pf m, iV at_, iV kind] = some (.tup [oM (againM m at_ kind).1, iV (againM m at_ kind).2]) := by
  have ht := s_mthere (i + 0) pf pf m at_ hm
  have hc := s_mcopy (i + 17) pf m hm
  simp only [Nat.add_assoc, Nat.reduceAdd] at ht hc
  cases h1 : (hereM m at_ && (decide (kind = 3) || decide (kind = 5)))
  · have h2 : ∀ a b c : Bool, (!a || !b && !c) = !(a && (b || c)) := by decide
    have h3 := h2 (hereM m at_) (decide (kind = 3)) (decide (kind = 5))
    rw [h1] at h3
    refine sp_of rfl 0 (by rfl) ?_
    delta c42
    simp +contextual -dsimp -implicitDefEqProofs (maxSteps := 5000000) only [ht, h3, go_sem, simprocAttr]
    simp only [againM, h1]
    rfl
  · have h2 : ∀ a b c : Bool, (!a || !b && !c) = !(a && (b || c)) := by decide
    have h3 := h2 (hereM m at_) (decide (kind = 3)) (decide (kind = 5))
    rw [h1] at h3
    have hh : hereM m at_ = true := by simp only [Bool.and_eq_true] at h1; exact h1.1
    obtain ⟨s, k, rfl, hs, hk⟩ := here_get hh
    have hd := s_drop (i + (20 - 2)) m hm k s hs
    have h5 : ∀ x, ((m.sess.map oS).set k x)[k]? = some x := fun x => List.getElem?_set_self (by simpa using hk)
    have h4 : ∀ x y, ((m.sess.map oS).set k x).set k y = (m.sess.map oS).set k y := fun x y => List.set_set ..
    have hm1 : againM m k kind = (tellM (setS (freeM (IntKind.wrap .i64 (s.id + 1)) m) k (againS s)) ⟨s.id, s.label, kind, minT s.tries⟩, 0) := by
      simp only [againM, h1, if_true, Int.toNat_natCast, hs]
    rw [hm1]
    by_cases htr : m.trace.length < 512
    · have hn := s_note (i + (20 - 1)) m ((m.words.a0.map (freeW (IntKind.wrap .i64 (s.id + 1)))).map eW) ((m.words.a1.map (freeW (IntKind.wrap .i64 (s.id + 1)))).map eW) ((m.words.a2.map (freeW (IntKind.wrap .i64 (s.id + 1)))).map eW) ((m.words.a3.map (freeW (IntKind.wrap .i64 (s.id + 1)))).map eW) (m.sess.map oS) k (by simpa using hk) s.id s.label
        [iV s.clear, oIs s.prog, iV 0, iV 0, iV 0, iV 0, iV 0, iV 0, oRs [], oWrs [], iV 0, iV 0, iV (minT s.tries), iV s.result, iV s.told] kind (minT s.tries) htr
      simp only [Nat.add_assoc, Nat.reduceAdd, Nat.reduceSub] at hd hn
      refine sp_of rfl 0 (by rfl) ?_
      delta c42
      simp +contextual -dsimp -implicitDefEqProofs (maxSteps := 5000000) only [ht, hc, h3, hd, h4, h5, hn, dropS, minT, go_sem, simprocAttr]
      refine gi_step hn ?_
      simp +contextual -dsimp -implicitDefEqProofs (maxSteps := 5000000) only [h5, h4, go_sem, simprocAttr]
      simp only [oM, cO, oWs, oSs, oEs, tellM, setS, freeM, htr, if_true, List.map_set, List.map_append, againS, dropS]
      rfl
    · have hn := s_noteF (i + (20 - 1)) m ((m.words.a0.map (freeW (IntKind.wrap .i64 (s.id + 1)))).map eW) ((m.words.a1.map (freeW (IntKind.wrap .i64 (s.id + 1)))).map eW) ((m.words.a2.map (freeW (IntKind.wrap .i64 (s.id + 1)))).map eW) ((m.words.a3.map (freeW (IntKind.wrap .i64 (s.id + 1)))).map eW)
        ((m.sess.map oS).set k (oS (againS s))) k kind (minT s.tries) htr
      simp only [Nat.add_assoc, Nat.reduceAdd, Nat.reduceSub] at hd hn
      refine sp_of rfl 0 (by rfl) ?_
      delta c42
      simp +contextual -dsimp -implicitDefEqProofs (maxSteps := 5000000) only [ht, hc, h3, hd, h4, h5, dropS, go_sem, simprocAttr]
      refine gi_step hn ?_
      simp +contextual -dsimp -implicitDefEqProofs (maxSteps := 5000000) only [h5, h4, go_sem, simprocAttr]
      simp only [oM, cO, oWs, oSs, oEs, tellM, setS, freeM, htr, if_false, List.map_set, againS, dropS]
      rfl
end Ve
