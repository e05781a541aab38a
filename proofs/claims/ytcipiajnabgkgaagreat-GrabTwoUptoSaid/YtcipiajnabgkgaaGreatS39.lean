/- The reference's new arenas, sessions, machines. -/
import Derived.Test.YtcipiajnabgkgaaGreatS18
import Derived.Test.YtcipiajnabgkgaaGreatS21
import Derived.Test.YtcipiajnabgkgaaGreatS15
import Derived.Test.YtcipiajnabgkgaaGreatMN
import Derived.Test.YtcipiajnabgkgaaGreatLo2
set_option linter.all false
set_option linter.unusedSectionVars false
namespace Ve
open Go Ve.Ab
set_option maxHeartbeats 16000000
set_option maxRecDepth 10000
abbrev cN (p : Bool) (ws : A4 (List Int)) : List V := [eNs p ws.a0, eNs p ws.a1, eNs p ws.a2, eNs p ws.a3]
abbrev hA (o : A4 (List TWord)) (d : Bool) : Hp := pO (pO emptyHp 0 (some ⟨4, [.agg [.own 3 [], .own 3 [], .own 3 [], .own 3 []]], false⟩)) 1 (some ⟨4, [.agg [oWs o.a0, oWs o.a1, oWs o.a2, oWs o.a3]], d⟩)
theorem lr_na (i k : Nat) (p : Bool) (ws : A4 (List Int)) (o : A4 (List TWord)) (g : Int) (hg : g = 0 ∨ g = 1 ∨ g = 2 ∨ g = 3) (q : Out → St → Option Ans) (Q : V → Hp → Nat → Prop)
    (u : Dum (fun s q => evC ctx (Lv ctx (i + 2)) (pureOf (Lv ctx (i + 2))) k c70_1 s (restK [1, 2, 4, 5, 6] q))) (w : Dum q)
    (hend : ∀ d, rowNew (ws.get g) = true → Fin (q (.exit 2) ⟨ofLive [1, 2, 4, 5] [.ip p (cN p ws) 0, .ptr 0 0 0, .ptr 1 0 0, iV g], hA (o.set g ((ws.get g).map newW)) d, 2⟩) Q)
    (hbad : ∀ o' d, rowNew (ws.get g) = false → Fin (q .ret ⟨ofLive [2, 3] [.ptr 0 0 0, iV 400], hA o' d, 2⟩) Q) :
    ∀ (n j kk : Nat) (d : Bool), j + n = (ws.get g).length → n < kk → j ≤ 4 → (∀ v ∈ (ws.get g).take j, inR v 255 = true) →
    GL 2 [1, 2, 4, 5, 6] (fun s q => evC ctx (Lv ctx (i + 2)) (pureOf (Lv ctx (i + 2))) k c70_1 s (restK [1, 2, 4, 5, 6] q)) q kk ⟨ofLive [1, 2, 4, 5, 6] [.ip p (cN p ws) 0, .ptr 0 0 0, .ptr 1 0 0, iV g, iV j], hA (o.set g (((ws.get g).take j).map newW)) d, 2⟩ Q u w := by
  intro n
  induction n with
  | zero =>
    intro j kk d hj hk h4 hall
    obtain ⟨kk, rfl⟩ : ∃ n, kk = n + 1 := ⟨kk - 1, by omega⟩
    have hj' : j = (ws.get g).length := by omega
    subst hj'
    rw [List.take_length] at hall ⊢
    have l0 : decide (((ws.get g).length : Int) < ((ws.get g).length : Int)) = false := by simp
    have he := hend d (by simp only [rowNew, Bool.and_eq_true, decide_eq_true_eq, List.all_eq_true]; exact ⟨h4, hall⟩)
    clear hend hbad hall
    rcases hg with rfl | rfl | rfl | rfl
    all_goals
      simp only [A4.get, A4.set, simprocAttr] at l0 he ⊢
      cases d
      all_goals
        simp +contextual -dsimp -implicitDefEqProofs (maxSteps := 5000000) only [gLs, ↓un_c (c70_1.eq_1), l0, go_sem, simprocAttr]
        exact he
  | succ n ih =>
    intro j kk d hj hk h4 hall
    obtain ⟨kk, rfl⟩ : ∃ n, kk = n + 1 := ⟨kk - 1, by omega⟩
    have hjl : j < (ws.get g).length := by omega
    obtain ⟨x, hx⟩ : ∃ x, (ws.get g)[j]? = some x := ⟨_, List.getElem?_eq_getElem hjl⟩
    have hmem : x ∈ ws.get g := List.mem_of_getElem? hx
    have l1 : ((j : Int) < ((ws.get g).length : Int)) = True := by simpa using hjl
    have l2 : (0 ≤ (j : Int)) = True := by simp
    by_cases h4' : j = 4
    · have he := hbad (o.set g (((ws.get g).take j).map newW)) d (by simp only [rowNew, Bool.and_eq_false_iff, decide_eq_false_iff_not]; left; omega)
      have l3 : decide ((4 : Int) ≤ (j : Int)) = true := by simp; omega
      clear hend hbad hall ih
      rcases hg with rfl | rfl | rfl | rfl
      all_goals
        simp only [A4.get, A4.set, simprocAttr] at hx l1 he ⊢
        cases d
        all_goals
          simp +contextual -dsimp -implicitDefEqProofs (maxSteps := 5000000) only [gLs, ↓un_c (c70_1.eq_1), l1, l2, l3, go_sem, simprocAttr]
          exact he
    · have l3 : decide ((4 : Int) ≤ (j : Int)) = false := by simp; omega
      cases hv : inR x 255
      · have he := hbad (o.set g (((ws.get g).take j).map newW)) d (by
          simp only [rowNew, Bool.and_eq_false_iff]; right
          rw [List.all_eq_false]; exact ⟨x, hmem, by simp [hv]⟩)
        clear hend hbad hall ih
        rcases hg with rfl | rfl | rfl | rfl
        all_goals
          simp only [A4.get, A4.set, simprocAttr] at hx l1 he ⊢
          cases d
          all_goals
            simp +contextual -dsimp -implicitDefEqProofs (maxSteps := 5000000) only [gLs, ↓un_c (c70_1.eq_1), l1, l2, l3, hx, hv, go_sem, simprocAttr]
            exact he
      · have ht : (ws.get g).take (j + 1) = (ws.get g).take j ++ [x] := by rw [List.take_add_one, hx]; rfl
        have ih := ih (j + 1) kk true (by omega) (by omega) (by omega) (by
          intro v hv'
          rw [ht] at hv'
          rcases List.mem_append.1 hv' with h | h
          · exact hall v h
          · simp only [List.mem_singleton] at h; subst h; exact hv)
        have l5 := wrN j (by simp only [BB]; omega)
        have l6 : (((((ws.get g).take j).length + 1 : Nat) : Int) * 24 ≤ 140737488355328) = True := by simp only [List.length_take, eq_iff_iff, iff_true]; omega
        rw [ht] at ih
        clear hend hbad hall
        rcases hg with rfl | rfl | rfl | rfl
        all_goals
          simp only [A4.get, A4.set, hA, oWs, List.map_append, List.map_cons, List.map_nil, newW, eW, simprocAttr] at hx l1 l6 ih ⊢
          cases d
          all_goals
            simp +contextual -dsimp -implicitDefEqProofs (maxSteps := 5000000) only [gLs, ↓un_c (c70_1.eq_1), l1, l2, l3, hx, hv, l5, l6, go_sem, simprocAttr]
            exact (gl_normE (by rfl)).mpr ih
abbrev eA (p : Bool) (ws : A4 (List Int)) : V := .agg (cN p ws)
theorem r_newArena (i : Nat) (p : Bool) (ws : A4 (List Int)) : pureOf (Lv ctx (i + 3)) 70 [eA p ws] = some (.tup [.agg [oWs (newA ws).1.a0, oWs (newA ws).1.a1, oWs (newA ws).1.a2, oWs (newA ws).1.a3], iV (newA ws).2]) := by
  have key := fun g hg o k q Q u w h1 h2 kk d hk => lr_na i k p ws o g hg q Q u w h1 h2 (ws.get g).length 0 kk d (by omega) hk (by omega) (by simp)
  have e : newA ws = if valsMay ws = true then (newWs ws, 0) else (⟨[], [], [], []⟩, 400) := rfl
  simp only [List.take_zero, List.map_nil, Int.natCast_zero] at key
  refine sp_of rfl (ws.a0.length + ws.a1.length + ws.a2.length + ws.a3.length + 6) (by rfl) ?_
  delta c70
  have fin : ∀ h : rowNew ws.a0 = true ∧ rowNew ws.a1 = true ∧ rowNew ws.a2 = true ∧ rowNew ws.a3 = true, newA ws = (newWs ws, 0) := by
    intro h; rw [e]; simp only [valsMay, A4.all, h.1, h.2.1, h.2.2.1, h.2.2.2]; rfl
  have bad : (rowNew ws.a0 = false ∨ rowNew ws.a1 = false ∨ rowNew ws.a2 = false ∨ rowNew ws.a3 = false) → newA ws = (⟨[], [], [], []⟩, 400) := by
    intro h; rw [e]; rcases h with h | h | h | h <;> simp [valsMay, A4.all, h]
  simp +contextual -dsimp -implicitDefEqProofs (maxSteps := 5000000) only [A4.set, A4.get, List.map_nil, gLs 2 [1, 2, 4, 5], ↓un_c (c70_2.eq_1), go_sem, simprocAttr]
  refine key 0 (by simp) ⟨[], [], [], []⟩ _ _ _ _ _ ?ha ?hb _ false (by simp only [A4.get, simprocAttr]; omega)
  case hb => intro o' d hr; rw [bad (.inl hr)]; cases d <;> simp +contextual -dsimp -implicitDefEqProofs (maxSteps := 5000000) only [go_sem, simprocAttr] <;> rfl
  case ha =>
    intro d h0
    cases d
    all_goals
      simp +contextual -dsimp -implicitDefEqProofs (maxSteps := 5000000) only [A4.set, A4.get, List.map_nil, gLs 2 [1, 2, 4, 5], ↓un_c (c70_2.eq_1), go_sem, simprocAttr]
      refine key 1 (by simp) ⟨ws.a0.map newW, [], [], []⟩ _ _ _ _ _ ?ha ?hb _ _ (by simp only [A4.get, simprocAttr]; omega)
      case hb => intro o' d hr; rw [bad (.inr (.inl hr))]; cases d <;> simp +contextual -dsimp -implicitDefEqProofs (maxSteps := 5000000) only [go_sem, simprocAttr] <;> rfl
      case ha =>
        intro d h1
        cases d
        all_goals
          simp +contextual -dsimp -implicitDefEqProofs (maxSteps := 5000000) only [A4.set, A4.get, List.map_nil, gLs 2 [1, 2, 4, 5], ↓un_c (c70_2.eq_1), go_sem, simprocAttr]
          refine key 2 (by simp) ⟨ws.a0.map newW, ws.a1.map newW, [], []⟩ _ _ _ _ _ ?ha ?hb _ _ (by simp only [A4.get, simprocAttr]; omega)
          case hb => intro o' d hr; rw [bad (.inr (.inr (.inl hr)))]; cases d <;> simp +contextual -dsimp -implicitDefEqProofs (maxSteps := 5000000) only [go_sem, simprocAttr] <;> rfl
          case ha =>
            intro d h2
            cases d
            all_goals
              simp +contextual -dsimp -implicitDefEqProofs (maxSteps := 5000000) only [A4.set, A4.get, List.map_nil, gLs 2 [1, 2, 4, 5], ↓un_c (c70_2.eq_1), go_sem, simprocAttr]
              refine key 3 (by simp) ⟨ws.a0.map newW, ws.a1.map newW, ws.a2.map newW, []⟩ _ _ _ _ _ ?ha ?hb _ _ (by simp only [A4.get, simprocAttr]; omega)
              case hb => intro o' d hr; rw [bad (.inr (.inr (.inr hr)))]; cases d <;> simp +contextual -dsimp -implicitDefEqProofs (maxSteps := 5000000) only [go_sem, simprocAttr] <;> rfl
              case ha =>
                intro d h3
                cases d
                all_goals
                  rw [fin ⟨h0, h1, h2, h3⟩]
                  simp +contextual -dsimp -implicitDefEqProofs (maxSteps := 5000000) only [A4.set, A4.get, List.map_nil, gLs 2 [1, 2, 4, 5], ↓un_c (c70_2.eq_1), go_sem, simprocAttr]
                  rfl
theorem r_newS (i : Nat) (p : Bool) (s : TStart) (hp : s.prog.length ≤ 1048576) : pureOf (Lv ctx (i + 6)) 71 [eSt p s] = some (.tup [oS (newS s).1, iV (newS s).2]) := by
  have h0 := r_start (i + 0) p false s.id s.label s.clear s.prog (by simp only [BB]; omega)
  have h1 : ((s.prog.length : Int) * 32 ≤ 140737488355328) = True := by simp only [eq_iff_iff, iff_true]; omega
  have e : newS s = if startMay s.id s.label s.clear s.prog = true then (sess0 s, 0) else (sess0 ⟨0, 0, 0, []⟩, 1100) := rfl
  simp only [Nat.add_assoc, Nat.reduceAdd] at h0
  simp only [eSt]
  cases hb : startMay s.id s.label s.clear s.prog
  all_goals
    rw [hb] at e h0
    rw [e]
    refine sp_of rfl 0 (by rfl) ?_
    delta c71
    cases p <;> simp +contextual -dsimp -implicitDefEqProofs (maxSteps := 5000000) only [h0, h1, sess0, oS, go_sem, simprocAttr] <;> rfl
abbrev hNw (A : A4 (List TWord)) (c : Int) (els : List V) : Hp :=
  pO (pO (pO (pO (pO (pO (pO emptyHp 0 (some ⟨11, [.agg [.own 3 [], .own 3 [], .own 3 [], .own 3 [], iZ, iZ, iZ, iZ, iZ, .own 17 [], .own 4 []]], false⟩)) 1 (some ⟨3, A.a0.map eW, false⟩)) 2 (some ⟨3, A.a1.map eW, false⟩)) 3 (some ⟨3, A.a2.map eW, false⟩)) 4 (some ⟨3, A.a3.map eW, false⟩))
    5 (some ⟨4, [.agg [.sl 1, .sl 2, .sl 3, .sl 4]], true⟩)) 6 (some ⟨11, [.agg [.sl 1, .sl 2, .sl 3, .sl 4, iZ, iZ, iZ, iZ, iV c, .own 17 els, .own 4 []]], true⟩)
theorem lr_new (i k : Nat) (p : Bool) (s : TScript) (hs : SmSc s) (e : Int) (A : A4 (List TWord)) (q : Out → St → Option Ans) (Q : V → Hp → Nat → Prop)
    (u : Dum (fun s q => evC ctx (Lv ctx (i + 7)) (pureOf (Lv ctx (i + 7))) k c35_1 s (restK [1, 2, 5, 6, 7] q))) (w : Dum q)
    (hend : s.starts.all startOk = true → Fin (q (.exit 0) ⟨ofLive [2, 5, 6] [.ptr 0 0 0, iV e, .ptr 6 0 0], hNw A s.ceil ((s.starts.map sess0).map oS), 7⟩) Q)
    (hbad : ∀ els x7 x8 x9 x10, s.starts.all startOk = false → Fin (q .ret ⟨ofLive [2, 3] [.ptr 0 0 0, iV 1200], pO (pO (pO (pO (hNw A s.ceil els) 7 x7) 8 x8) 9 x9) 10 x10, 11⟩) Q) :
    ∀ (suf pre : List TStart) (kk : Nat), s.starts = pre ++ suf → suf.length < kk → (∀ x ∈ pre, startOk x = true) →
    GL 7 [1, 2, 5, 6, 7] (fun s q => evC ctx (Lv ctx (i + 7)) (pureOf (Lv ctx (i + 7))) k c35_1 s (restK [1, 2, 5, 6, 7] q)) q kk ⟨ofLive [1, 2, 5, 6, 7] [.ip p (cSc p s) 0, .ptr 0 0 0, iV e, .ptr 6 0 0, iV pre.length], hNw A s.ceil ((pre.map sess0).map oS), 7⟩ Q u w
  | [], pre, kk, hxs, hk, hall => by
    obtain ⟨kk, rfl⟩ : ∃ m, kk = m + 1 := ⟨kk - 1, by simp at hk; omega⟩
    have h1 : decide ((pre.length : Int) < s.starts.length) = false := by simp [hxs]
    have h2 : s.starts = pre := by simp [hxs]
    have he := hend (by rw [h2, List.all_eq_true]; exact hall)
    rw [h2] at he
    simp +contextual -dsimp -implicitDefEqProofs (maxSteps := 5000000) only [gLs, ↓un_c (c35_1.eq_1), h1, go_sem, simprocAttr]
    exact he
  | a :: suf, pre, kk, hxs, hk, hall => by
    obtain ⟨kk, rfl⟩ : ∃ m, kk = m + 1 := ⟨kk - 1, by simp at hk; omega⟩
    have hl : pre.length < s.starts.length := by simp [hxs]
    have h2 : ((pre.length : Int) < s.starts.length) = True := by simpa using hl
    have h3 : (0 ≤ (pre.length : Int)) = True := by simp
    have h4 := wrN pre.length (by have := hs.bst; simp only [BB]; omega)
    have hg : s.starts[pre.length]? = some a := by simp [hxs]
    have h5 : (((pre.length + 1 : Nat) : Int) * 184 ≤ 140737488355328) = True := by
      have := hs.bst
      simp only [eq_iff_iff, iff_true]
      omega
    have hr := r_newS (i + 1) p a (hs.p a (by simp [hxs]))
    cases hb : startOk a
    · have e0 : newS a = (sess0 ⟨0, 0, 0, []⟩, 1100) := by unfold newS; rw [hb]; rfl
      rw [e0] at hr
      simp only [Nat.add_assoc, Nat.reduceAdd, sess0, oS, eSt, List.map_nil] at hr
      have he : s.starts.all startOk = false := by rw [List.all_eq_false]; exact ⟨a, by simp [hxs], by simp [hb]⟩
      simp +contextual -dsimp -implicitDefEqProofs (maxSteps := 5000000) only [gLs, ↓un_c (c35_1.eq_1), h2, h3, hg, hr, eSt, go_sem, simprocAttr]
      exact hbad _ _ _ _ _ he
    · have e0 : newS a = (sess0 a, 0) := by unfold newS; rw [hb]; rfl
      rw [e0] at hr
      have ih := lr_new i k p s hs e A q Q u w hend hbad suf (pre ++ [a]) kk (by simp [hxs]) (by simpa using hk) (by
        intro x hx
        rcases List.mem_append.1 hx with h | h
        · exact hall x h
        · simp only [List.mem_singleton] at h; subst h; exact hb)
      simp only [append_len1, List.map_append, List.map_cons, List.map_nil, oS, sess0] at ih
      simp only [Nat.add_assoc, Nat.reduceAdd, eSt, oS, sess0] at hr
      simp +contextual -dsimp -implicitDefEqProofs (maxSteps := 5000000) only [gLs, ↓un_c (c35_1.eq_1), h2, h3, h4, h5, hg, hr, eSt, oS, sess0, go_sem, simprocAttr]
      obtain ⟨kk, rfl⟩ : ∃ m, kk = m + 1 := ⟨kk - 1, by simp at hk; omega⟩
      simp +contextual -dsimp -implicitDefEqProofs (maxSteps := 5000000) only [gLs, iZ, go_sem, simprocAttr] at ih ⊢
      exact ih
theorem newM_ok {s : TScript} (h1 : valsMay s.words = true) (h2 : s.starts.all startOk = true) (h3 : mayM (mach0 s) = true) : newM s = (mach0 s, 0) := by unfold newM; rw [h1, h2, h3]; rfl
theorem newM_no {s : TScript} (h : valsMay s.words = false ∨ s.starts.all startOk = false ∨ mayM (mach0 s) = false) : newM s = (zeroM, 1200) := by
  unfold newM; rcases h with h | h | h <;> simp [h]
theorem r_newM (i : Nat) (p : Bool) (s : TScript) (hs : SmSc s) : pureOf (Lv ctx (i + 8)) 35 [eSc p s] = some (.tup [oM (newM s).1, iV (newM s).2]) := by
  have h0 := r_newArena (i + 4) p s.words
  have hM := r_may (i + 0) false (mach0 s) (sm_mach0 hs)
  simp only [Nat.add_assoc, Nat.reduceAdd] at h0 hM
  refine sp_of rfl (s.starts.length + 1) (by rfl) ?_
  delta c35
  cases p
  all_goals
    simp +contextual -dsimp -implicitDefEqProofs (maxSteps := 5000000) only [h0, go_sem, simprocAttr]
    refine lr_new i _ _ s hs (newA s.words).2 (newA s.words).1 _ _ _ _ ?ha ?hb s.starts [] _ (by simp) (by omega) (by simp)
    case hb =>
      intro els x7 x8 x9 x10 hb
      rw [newM_no (.inr (.inl hb)), zero_o]
      simp +contextual -dsimp -implicitDefEqProofs (maxSteps := 5000000) only [go_sem, simprocAttr]
    case ha =>
      intro hb
      cases hv : valsMay s.words
      · have e : newA s.words = (⟨[], [], [], []⟩, 400) := by unfold newA; rw [hv]; rfl
        rw [e, newM_no (.inl hv), zero_o]
        simp +contextual -dsimp -implicitDefEqProofs (maxSteps := 5000000) only [go_sem, simprocAttr]
      · have e : newA s.words = (newWs s.words, 0) := by unfold newA; rw [hv]; rfl
        rw [e]
        simp only [mach0, newWs, eM, cM, eWs, eSs, eEs, List.map_nil] at hM
        cases hm : mayM (mach0 s)
        · rw [newM_no (.inr (.inr hm)), zero_o]
          simp only [mach0, newWs] at hm
          rw [hm] at hM
          simp +contextual -dsimp -implicitDefEqProofs (maxSteps := 5000000) only [hM, newWs, go_sem, simprocAttr]
        · rw [newM_ok hv hb hm]
          simp only [mach0, newWs] at hm
          rw [hm] at hM
          simp only [mach0, newWs, oM, cO, oWs, oSs, oEs, List.map_nil]
          simp +contextual -dsimp -implicitDefEqProofs (maxSteps := 5000000) only [hM, newWs, go_sem, simprocAttr]
end Ve
