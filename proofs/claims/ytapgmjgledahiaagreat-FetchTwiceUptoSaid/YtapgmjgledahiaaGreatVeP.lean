/- Laws of the models: what a step leaves may be. -/
import Derived.Test.YtapgmjgledahiaaGreatVeM
set_option linter.all false
set_option linter.unusedSectionVars false
namespace Ve
open Go
theorem a4_ext {α : Type} {a b : A4 α} (h0 : a.a0 = b.a0) (h1 : a.a1 = b.a1) (h2 : a.a2 = b.a2) (h3 : a.a3 = b.a3) : a = b := by
  cases a; cases b; simp_all
theorem wThere_len {ws ws' : A4 (List TWord)} (h0 : ws'.a0.length = ws.a0.length) (h1 : ws'.a1.length = ws.a1.length) (h2 : ws'.a2.length = ws.a2.length) (h3 : ws'.a3.length = ws.a3.length) (l i : Int) : wThere ws' l i = wThere ws l i := by
  have : (ws'.get l).length = (ws.get l).length := by
    simp only [A4.get]; split
    · exact h0
    · split
      · exact h1
      · split
        · exact h2
        · exact h3
  simp only [wThere, this]
theorem sessMay_len {ws ws' : A4 (List TWord)} (h : ∀ l i, wThere ws' l i = wThere ws l i) (s : TSess) : sessMay ws' s = sessMay ws s := by
  simp only [sessMay, readsThere, writesThere, progThere, h]
def idsI : Option Int → List Int → Bool
  | _, [] => true
  | none, s :: t => idsI (some s) t
  | some v, s :: t => decide (v < s) && idsI (some s) t
theorem idsGo_map : ∀ (l : List TSess) (o : Option Int), idsGo o l = idsI o (l.map (·.id))
  | [], o => by cases o <;> rfl
  | a :: l, none => by simp only [idsGo, List.map_cons, idsI]; exact idsGo_map l _
  | a :: l, some v => by simp only [idsGo, List.map_cons, idsI]; rw [idsGo_map l]
theorem map_set_id {l : List TSess} {k : Nat} {s s' : TSess} (hs : l[k]? = some s) (h : s'.id = s.id) : (l.set k s').map (·.id) = l.map (·.id) := by
  rw [List.map_set, h]
  apply List.ext_getElem?
  intro i
  rw [List.getElem?_set]
  split
  · rename_i e; subst e
    have hl := get_lt hs
    have : l[k] = s := by rw [List.getElem?_eq_getElem hl] at hs; exact Option.some.inj hs
    simp [hl, this]
  · rfl
/-- the parts of sessMay -/
structure SP (ws : A4 (List TWord)) (s : TSess) : Prop where
  id : inR s.id 254 = true
  label : inR s.label 3 = true
  clear : inR s.clear 3 = true
  under : under s.label s.clear = true
  prog : progMay s.prog = true
  reads : readsMay s.reads = true
  writes : writesMay s.writes = true
  rthere : readsThere ws s.reads = true
  wthere : writesThere ws s.writes = true
  pthere : progThere ws s.prog = true
  pc : inR s.pc s.prog.length = true
  at_ : inR s.at_ s.writes.length = true
  step : inR s.step 6 = true
  result : inR s.result 5 = true
  regs : regsMay s.regs = true
  stamp : inR s.stamp 65535 = true
  tries : inR s.tries 65535 = true
  told : inR s.told 255 = true
theorem sp (ws : A4 (List TWord)) (s : TSess) : sessMay ws s = true ↔ SP ws s := by
  simp only [sessMay, startMay, Bool.and_eq_true]
  constructor
  · rintro ⟨⟨⟨⟨⟨⟨⟨⟨⟨⟨a, b⟩, c⟩, d⟩, e⟩, ⟨⟨⟨f, g⟩, h⟩, i⟩, j⟩, ⟨⟨k, l⟩, m⟩, n⟩, o⟩, p⟩, q⟩, r⟩
    exact ⟨a, b, c, d, e, f, g, h, i, j, k, l, m, n, o, p, q, r⟩
  · rintro ⟨a, b, c, d, e, f, g, h, i, j, k, l, m, n, o, p, q, r⟩
    exact ⟨⟨⟨⟨⟨⟨⟨⟨⟨⟨a, b⟩, c⟩, d⟩, e⟩, ⟨⟨⟨f, g⟩, h⟩, i⟩, j⟩, ⟨⟨k, l⟩, m⟩, n⟩, o⟩, p⟩, q⟩, r⟩
/-- the parts of mayM -/
structure MayP (m : TMach) : Prop where
  arena : arenaMay m.words = true
  ceil : inR m.ceil 65535 = true
  clocks : m.clocks.all (fun c => inR c m.ceil) = true
  sl : m.sess.length ≤ 4
  tl : m.trace.length ≤ 512
  ids : idsI none (m.sess.map (·.id)) = true
  sess : ∀ s ∈ m.sess, sessMay m.words s = true
  trace : ∀ e ∈ m.trace, inR e.label 3 = true
theorem mayP (m : TMach) : mayM m = true ↔ MayP m := by
  simp only [mayM, Bool.and_eq_true, decide_eq_true_eq, List.all_eq_true, idsGo_map]
  constructor
  · rintro ⟨⟨⟨⟨⟨⟨⟨a, b⟩, c⟩, d⟩, e⟩, f⟩, g⟩, h⟩
    exact ⟨a, b, c, d, e, f, g, h⟩
  · rintro ⟨a, b, c, d, e, f, g, h⟩
    exact ⟨⟨⟨⟨⟨⟨⟨a, b⟩, c⟩, d⟩, e⟩, f⟩, g⟩, h⟩
theorem mayP_tell {m : TMach} (h : MayP m) {e : TEvent} (he : inR e.label 3 = true) : MayP (tellM m e) := by
  unfold tellM
  split
  · rename_i hl
    refine ⟨h.arena, h.ceil, h.clocks, h.sl, by simp; omega, h.ids, h.sess, ?_⟩
    intro x hx
    rcases List.mem_append.1 hx with hx | hx
    · exact h.trace x hx
    · simp only [List.mem_singleton] at hx; subst hx; exact he
  · exact h
theorem mayP_set {m : TMach} (h : MayP m) {k : Nat} {s s' : TSess} (hs : m.sess[k]? = some s) (hid : s'.id = s.id) (hm : SP m.words s') : MayP (setS m k s') := by
  refine ⟨h.arena, h.ceil, h.clocks, by simpa [setS] using h.sl, h.tl, ?_, ?_, h.trace⟩
  · simp only [setS]; rw [map_set_id hs hid]; exact h.ids
  · intro x hx
    simp only [setS] at hx
    rcases List.mem_or_eq_of_mem_set hx with hx | rfl
    · exact h.sess x hx
    · exact (sp _ _).2 hm
theorem wordMay_free {w : TWord} (c : Int) (h : wordMay w = true) : wordMay (freeW c w) = true := by
  unfold freeW
  split
  · simp only [wordMay, Bool.and_eq_true] at h ⊢
    exact ⟨h.1, by decide⟩
  · exact h
theorem rowMay_free {l : List TWord} (c : Int) (h : rowMay l = true) : rowMay (l.map (freeW c)) = true := by
  simp only [rowMay, Bool.and_eq_true, List.length_map, List.all_eq_true] at h ⊢
  refine ⟨h.1, ?_⟩
  intro x hx
  obtain ⟨y, hy, rfl⟩ := List.mem_map.1 hx
  exact wordMay_free c (h.2 y hy)
/-- other words, of the same places -/
theorem mayP_words {m : TMach} (h : MayP m) {ws : A4 (List TWord)} (ha : arenaMay ws = true) (h0 : ws.a0.length = m.words.a0.length) (h1 : ws.a1.length = m.words.a1.length) (h2 : ws.a2.length = m.words.a2.length) (h3 : ws.a3.length = m.words.a3.length) : MayP { m with words := ws } :=
  ⟨ha, h.ceil, h.clocks, h.sl, h.tl, h.ids, fun s hs => by rw [sessMay_len (fun l i => wThere_len h0 h1 h2 h3 l i)]; exact h.sess s hs, h.trace⟩
theorem mayP_free {m : TMach} (h : MayP m) (c : Int) : MayP (freeM c m) := by
  refine mayP_words h ?_ (by simp) (by simp) (by simp) (by simp)
  have := h.arena
  simp only [arenaMay, A4.all, Bool.and_eq_true] at this ⊢
  exact ⟨⟨⟨rowMay_free c this.1.1.1, rowMay_free c this.1.1.2⟩, rowMay_free c this.1.2⟩, rowMay_free c this.2⟩
theorem reads_nil : readsMay [] = true := by decide
theorem writes_nil : writesMay [] = true := by decide
theorem sp_drop {ws : A4 (List TWord)} {s : TSess} (h : SP ws s) : SP ws (dropS s) :=
  { h with reads := reads_nil, writes := writes_nil, rthere := rfl, wthere := rfl, at_ := by simp [dropS, inR], stamp := by rfl }
theorem inR_le {x c : Int} : inR x c = true ↔ 0 ≤ x ∧ x ≤ c := by simp [inR]
theorem wrap_small {a : Int} (h1 : 0 ≤ a) (h2 : a ≤ 9000000000000000000) : IntKind.wrap .i64 a = a := wr_id (by omega) (by omega)
theorem minT_in {t : Int} (h : inR t 65535 = true) : inR (minT t) 65535 = true := by
  rw [inR_le] at h
  unfold minT
  rw [wrap_small (by omega) (by omega)]
  split
  · decide
  · rw [inR_le]; omega
theorem minT_eq {t : Int} (h : inR t 65535 = true) : minT t = if t = 65535 then 65535 else t + 1 := by
  rw [inR_le] at h
  unfold minT
  rw [wrap_small (by omega) (by omega)]
  split <;> split <;> omega
theorem sp_again {ws : A4 (List TWord)} {s : TSess} (h : SP ws s) : SP ws (againS s) :=
  { sp_drop h with pc := by simp [againS, inR], regs := by rfl, step := by rfl, tries := minT_in h.tries }
theorem sp_end {ws : A4 (List TWord)} {s : TSess} (h : SP ws s) {r t : Int} (hr : inR r 5 = true) (ht : inR t 255 = true) : SP ws (endS s r t) :=
  { sp_drop h with step := by rfl, result := hr, told := ht }
theorem sp_free {m : TMach} {s : TSess} (c : Int) : SP (freeM c m).words s ↔ SP m.words s := by
  rw [← sp, ← sp, sessMay_len (ws := m.words) (ws' := (freeM c m).words) (fun l i => wThere_len (by simp [freeM]) (by simp [freeM]) (by simp [freeM]) (by simp [freeM]) l i)]
/-- a machine with a session -/
theorem here_of {m : TMach} {k : Nat} (h : MayP m) (hk : k < m.sess.length) : hereM m k = true := by
  simp only [hereM, Bool.and_eq_true, decide_eq_true_eq]
  exact ⟨⟨(mayP m).2 h, by omega⟩, by omega⟩
theorem here_cases (m : TMach) (at_ : Int) : hereM m at_ = false ∨ ∃ k s, at_ = (k : Nat) ∧ m.sess[k]? = some s ∧ MayP m ∧ SP m.words s := by
  cases h : hereM m at_ with
  | false => exact .inl rfl
  | true =>
    obtain ⟨s, k, rfl, hs, hk⟩ := here_get h
    have hm := here_may h
    exact .inr ⟨k, s, rfl, hs, (mayP m).1 hm, (sp _ _).1 (may_sess hm hs)⟩
/-- what begins anew, where it does -/
def anew (m : TMach) (k : Nat) (s : TSess) (kind : Int) : TMach := tellM (setS (freeM (s.id + 1) m) k (againS s)) ⟨s.id, s.label, kind, minT s.tries⟩
def ended (m : TMach) (k : Nat) (s : TSess) (r t : Int) : TMach := tellM (setS (freeM (s.id + 1) m) k (endS s r t)) ⟨s.id, s.label, 6, r⟩
theorem id_wrap {i : Int} (h : inR i 254 = true) : IntKind.wrap .i64 (i + 1) = i + 1 := by
  rw [inR_le] at h; exact wrap_small (by omega) (by omega)
theorem again_at {m : TMach} {k : Nat} {s : TSess} (hs : m.sess[k]? = some s) (hm : MayP m) {kind : Int} (hk : kind = 3 ∨ kind = 5) : againM m k kind = (anew m k s kind, 0) := by
  have h := (sp _ _).1 (hm.sess s (List.mem_of_getElem? hs))
  have h1 : (hereM m k && (decide (kind = 3) || decide (kind = 5))) = true := by
    rw [here_of hm (get_lt hs)]; rcases hk with rfl | rfl <;> rfl
  simp only [againM, h1, if_true, Int.toNat_natCast, hs, anew, id_wrap h.id]
theorem end_at {m : TMach} {k : Nat} {s : TSess} (hs : m.sess[k]? = some s) (hm : MayP m) {r t : Int} (hr : inR r 5 = true) (ht : inR t 255 = true) : endM m k r t = (ended m k s r t, 0) := by
  have h := (sp _ _).1 (hm.sess s (List.mem_of_getElem? hs))
  have h1 : (hereM m k && inR r 5 && inR t 255) = true := by
    rw [here_of hm (get_lt hs), hr, ht]; rfl
  simp only [endM, h1, if_true, Int.toNat_natCast, hs, ended, id_wrap h.id]
theorem again_no {m : TMach} {at_ kind : Int} (h : hereM m at_ = false) : againM m at_ kind = (zeroM, 1300) := by simp [againM, h]
theorem end_no {m : TMach} {at_ r t : Int} (h : hereM m at_ = false) : endM m at_ r t = (zeroM, 1300) := by simp [endM, h]
theorem tell_sess (m : TMach) (e : TEvent) : (tellM m e).sess = m.sess := by unfold tellM; split <;> rfl
theorem tell_words (m : TMach) (e : TEvent) : (tellM m e).words = m.words := by unfold tellM; split <;> rfl
theorem tell_clocks (m : TMach) (e : TEvent) : (tellM m e).clocks = m.clocks := by unfold tellM; split <;> rfl
theorem tell_ceil (m : TMach) (e : TEvent) : (tellM m e).ceil = m.ceil := by unfold tellM; split <;> rfl
theorem tell_trace (m : TMach) (e : TEvent) : (tellM m e).trace = if m.trace.length < 512 then m.trace ++ [e] else m.trace := by unfold tellM; split <;> rfl
theorem set_sess (m : TMach) (k : Nat) (s : TSess) : (setS m k s).sess = m.sess.set k s := rfl
theorem set_get {m : TMach} {k : Nat} {s s' : TSess} (hs : m.sess[k]? = some s) : (setS m k s').sess[k]? = some s' := by
  simp only [setS]; exact List.getElem?_set_self (get_lt hs)
theorem anew_may {m : TMach} {k : Nat} {s : TSess} (hs : m.sess[k]? = some s) (hm : MayP m) (kind : Int) : MayP (anew m k s kind) := by
  have h := (sp _ _).1 (hm.sess s (List.mem_of_getElem? hs))
  exact mayP_tell (mayP_set (mayP_free hm _) (s := s) (s' := againS s) hs rfl (sp_free _ |>.2 (sp_again h))) h.label
theorem ended_may {m : TMach} {k : Nat} {s : TSess} (hs : m.sess[k]? = some s) (hm : MayP m) {r t : Int} (hr : inR r 5 = true) (ht : inR t 255 = true) : MayP (ended m k s r t) := by
  have h := (sp _ _).1 (hm.sess s (List.mem_of_getElem? hs))
  exact mayP_tell (mayP_set (mayP_free hm _) (s := s) (s' := endS s r t) hs rfl (sp_free _ |>.2 (sp_end h hr ht))) h.label
theorem anew_sess {m : TMach} {k : Nat} {s : TSess} (kind : Int) : (anew m k s kind).sess = m.sess.set k (againS s) := by rw [anew, tell_sess]; rfl
theorem ended_sess {m : TMach} {k : Nat} {s : TSess} (r t : Int) : (ended m k s r t).sess = m.sess.set k (endS s r t) := by rw [ended, tell_sess]; rfl
theorem freeW_twice (c : Int) (w : TWord) : freeW c (freeW c w) = freeW c w := by
  unfold freeW
  by_cases h : w.lock = c
  · simp only [h, if_true]
    split <;> rfl
  · simp only [h, if_false]
theorem free_twice (c : Int) (m : TMach) : (freeM c (freeM c m)).words = (freeM c m).words := by
  have : ∀ l : List TWord, (l.map (freeW c)).map (freeW c) = l.map (freeW c) := fun l => by simp [freeW_twice]
  simp only [freeM, this]
theorem anew_words {m : TMach} {k : Nat} {s : TSess} (kind : Int) : (anew m k s kind).words = (freeM (s.id + 1) m).words := by rw [anew, tell_words]; rfl
theorem anew_clocks {m : TMach} {k : Nat} {s : TSess} (kind : Int) : (anew m k s kind).clocks = m.clocks := by rw [anew, tell_clocks]; rfl
theorem anew_ceil {m : TMach} {k : Nat} {s : TSess} (kind : Int) : (anew m k s kind).ceil = m.ceil := by rw [anew, tell_ceil]; rfl
theorem ended_words {m : TMach} {k : Nat} {s : TSess} (r t : Int) : (ended m k s r t).words = (freeM (s.id + 1) m).words := by rw [ended, tell_words]; rfl
theorem ended_clocks {m : TMach} {k : Nat} {s : TSess} (r t : Int) : (ended m k s r t).clocks = m.clocks := by rw [ended, tell_clocks]; rfl
theorem ended_ceil {m : TMach} {k : Nat} {s : TSess} (r t : Int) : (ended m k s r t).ceil = m.ceil := by rw [ended, tell_ceil]; rfl
theorem mask255 (a : Int) : inR (andI a 255) 255 = true := by
  have h : (BitVec.ofInt 64 a &&& BitVec.ofInt 64 255).toNat ≤ 255 := by
    have : (BitVec.ofInt 64 a &&& BitVec.ofInt 64 255).toNat = (BitVec.ofInt 64 a).toNat &&& 255 := by
      rw [BitVec.toNat_and]; rfl
    rw [this]; exact Nat.and_le_right
  unfold andI
  rw [wrap_small (by omega) (by omega), inR_le]
  omega
theorem mach_ext {a b : TMach} (h1 : a.words = b.words) (h2 : a.clocks = b.clocks) (h3 : a.ceil = b.ceil) (h4 : a.sess = b.sess) (h5 : a.trace = b.trace) : a = b := by
  cases a; cases b; simp_all
theorem twice {m : TMach} {k : Nat} {s : TSess} (hs : m.sess[k]? = some s) (kind : Int) : ({ anew (anew m k s kind) k (againS s) kind with sess := ((anew (anew m k s kind) k (againS s) kind).sess).set k { againS (againS s) with tries := (againS s).tries }, trace := (anew m k s kind).trace } : TMach) = anew m k s kind := by
  have hid : (againS s).id = s.id := rfl
  have e1 : (anew (anew m k s kind) k (againS s) kind).words = (anew m k s kind).words := by
    rw [anew_words, hid]
    show (freeM (s.id + 1) (anew m k s kind)).words = _
    have : (freeM (s.id + 1) (anew m k s kind)).words = (freeM (s.id + 1) (freeM (s.id + 1) m)).words := by
      simp only [freeM, anew_words]
    rw [this, free_twice, anew_words]
  have e2 : ((anew (anew m k s kind) k (againS s) kind).sess).set k { againS (againS s) with tries := (againS s).tries } = (anew m k s kind).sess := by
    rw [anew_sess, anew_sess]
    simp only [List.set_set]
    rfl
  refine mach_ext e1 ?_ ?_ e2 rfl
  · show (anew (anew m k s kind) k (againS s) kind).clocks = _
    rw [anew_clocks]
  · show (anew (anew m k s kind) k (againS s) kind).ceil = _
    rw [anew_ceil]
end Ve

/- Laws of the models: sets of writes, sets of reads. -/
namespace Ve
open Go
abbrev plW (w : TWrite) : Int := place w.level w.index
theorem writes_go : ∀ (l : List TWrite) (o : Option TWrite), writesGo o l = true → (∀ w ∈ l, write1 w = true) ∧ l.Pairwise (fun a b => plW a < plW b) ∧ (∀ v, o = some v → ∀ w ∈ l, plW v < plW w)
  | [], o, _ => ⟨by simp, List.Pairwise.nil, by simp⟩
  | a :: l, none, h => by
    simp only [writesGo, Bool.and_eq_true] at h
    obtain ⟨h1, h2, h3⟩ := writes_go l _ h.2
    refine ⟨fun w hw => ?_, List.pairwise_cons.2 ⟨fun w hw => h3 a rfl w hw, h2⟩, fun v hv => by cases hv⟩
    rcases List.mem_cons.1 hw with rfl | hw
    · exact h.1
    · exact h1 w hw
  | a :: l, some v, h => by
    simp only [writesGo, Bool.and_eq_true, decide_eq_true_eq] at h
    obtain ⟨h1, h2, h3⟩ := writes_go l _ h.2
    refine ⟨fun w hw => ?_, List.pairwise_cons.2 ⟨fun w hw => h3 a rfl w hw, h2⟩, fun v' hv w hw => ?_⟩
    · rcases List.mem_cons.1 hw with rfl | hw
      · exact h.1.1
      · exact h1 w hw
    · cases hv
      rcases List.mem_cons.1 hw with rfl | hw
      · exact h.1.2
      · have := h3 a rfl w hw
        have := h.1.2
        simp only [plW] at *
        omega
theorem writes_may {l : List TWrite} (h : writesMay l = true) : (∀ w ∈ l, write1 w = true) ∧ l.Pairwise (fun a b => plW a < plW b) ∧ l.length ≤ 16 := by
  simp only [writesMay, Bool.and_eq_true, decide_eq_true_eq] at h
  obtain ⟨h1, h2, _⟩ := writes_go l none h.1
  exact ⟨h1, h2, h.2⟩
theorem writes_go_of : ∀ (l : List TWrite) (o : Option TWrite), (∀ w ∈ l, write1 w = true) → l.Pairwise (fun a b => plW a < plW b) → (∀ v, o = some v → ∀ w ∈ l, plW v < plW w) → writesGo o l = true
  | [], o, _, _, _ => by cases o <;> rfl
  | a :: l, none, h1, h2, h3 => by
    obtain ⟨g1, g2⟩ := List.pairwise_cons.1 h2
    simp only [writesGo, Bool.and_eq_true]
    exact ⟨h1 a (by simp), writes_go_of l _ (fun w hw => h1 w (by simp [hw])) g2 (fun v hv w hw => by cases hv; exact g1 w hw)⟩
  | a :: l, some v, h1, h2, h3 => by
    obtain ⟨g1, g2⟩ := List.pairwise_cons.1 h2
    simp only [writesGo, Bool.and_eq_true, decide_eq_true_eq]
    exact ⟨⟨h1 a (by simp), h3 v rfl a (by simp)⟩, writes_go_of l _ (fun w hw => h1 w (by simp [hw])) g2 (fun v hv w hw => by cases hv; exact g1 w hw)⟩
def geW (w x : TWrite) : Bool := decide (plW w ≤ plW x)
def outW (w : TWrite) (l : List TWrite) : List TWrite := if l.any (geW w) = true then insW w l else l
theorem insW_lt (w : TWrite) (r : List TWrite) : ∀ (l : List TWrite), l.any (geW w) = false → insW w (l ++ r) = l ++ insW w r
  | [], _ => rfl
  | a :: l, h => by
    simp only [List.any_cons, Bool.or_eq_false_iff, geW, decide_eq_false_iff_not] at h
    simp only [List.cons_append, insW]
    rw [if_pos (by simp only [plW] at h; omega), insW_lt w r l (by simpa [geW] using h.2)]
theorem insW_app (w x : TWrite) : ∀ (l : List TWrite), l.any (geW w) = true → insW w (l ++ [x]) = insW w l ++ [x]
  | [], h => by simp at h
  | a :: l, h => by
    simp only [List.cons_append, insW]
    split
    · rename_i hlt
      have : l.any (geW w) = true := by
        simp only [List.any_cons, Bool.or_eq_true] at h
        rcases h with h | h
        · simp only [geW, decide_eq_true_eq, plW] at h; omega
        · exact h
      rw [insW_app w x l this]; rfl
    · split <;> rfl
theorem out_skip {w x : TWrite} {l : List TWrite} (h : l.any (geW w) = false) (hx : plW x < plW w) : outW w (l ++ [x]) = l ++ [x] ∧ (l ++ [x]).any (geW w) = false := by
  have : (l ++ [x]).any (geW w) = false := by
    rw [List.any_append, h, Bool.false_or]
    simp only [List.any_cons, List.any_nil, Bool.or_false, geW, decide_eq_false_iff_not]; omega
  exact ⟨by simp only [outW, this]; rfl, this⟩
theorem out_new {w x : TWrite} {l : List TWrite} (h : l.any (geW w) = false) (hx : plW w < plW x) : outW w (l ++ [x]) = (l ++ [w]) ++ [x] ∧ (l ++ [x]).any (geW w) = true := by
  have : (l ++ [x]).any (geW w) = true := by
    rw [List.any_append, h, Bool.false_or]
    simp only [List.any_cons, List.any_nil, Bool.or_false, geW, decide_eq_true_eq]; omega
  refine ⟨?_, this⟩
  simp only [outW, this, if_true, insW_lt w [x] l h, insW]
  rw [if_neg (by simp only [plW] at hx; omega), if_neg (by simp only [plW] at hx; omega)]
  simp
theorem out_same {w x : TWrite} {l : List TWrite} (h : l.any (geW w) = false) (hx : plW x = plW w) : outW w (l ++ [x]) = l ++ [w] ∧ (l ++ [x]).any (geW w) = true := by
  have : (l ++ [x]).any (geW w) = true := by
    rw [List.any_append, h, Bool.false_or]
    simp only [List.any_cons, List.any_nil, Bool.or_false, geW, decide_eq_true_eq]; omega
  refine ⟨?_, this⟩
  simp only [outW, this, if_true, insW_lt w [x] l h, insW]
  rw [if_neg (by simp only [plW] at hx; omega), if_pos (by simp only [plW] at hx; omega)]
theorem out_more {w x : TWrite} {l : List TWrite} (h : l.any (geW w) = true) : outW w (l ++ [x]) = outW w l ++ [x] ∧ (l ++ [x]).any (geW w) = true := by
  have : (l ++ [x]).any (geW w) = true := by rw [List.any_append, h, Bool.true_or]
  exact ⟨by simp only [outW, this, h, if_true, insW_app w x l h], this⟩
theorem out_end {w : TWrite} {l : List TWrite} : insW w l = if l.any (geW w) = true then outW w l else l ++ [w] := by
  split
  · rename_i h; simp only [outW, h, if_true]
  · rename_i h
    have := insW_lt w [] l (by simpa using h)
    simpa [insW] using this
theorem any_lt {w x : TWrite} {l : List TWrite} (h : l.any (geW w) = true) (hs : ∀ y ∈ l, plW y < plW x) : plW w < plW x := by
  obtain ⟨y, hy, hge⟩ := List.any_eq_true.1 h
  simp only [geW, decide_eq_true_eq] at hge
  have := hs y hy
  omega
theorem out_len (w : TWrite) (l : List TWrite) : (outW w l).length ≤ l.length + 1 := by
  have : ∀ l : List TWrite, (insW w l).length ≤ l.length + 1 := by
    intro l
    induction l with
    | nil => simp [insW]
    | cons a l ih =>
      simp only [insW]
      split
      · simp only [List.length_cons]; omega
      · split <;> simp
  simp only [outW]; split
  · exact this l
  · omega
end Ve

/- Laws of the models: where a session stands. -/
namespace Ve
open Go
/-- where a machine's session is: none; at no instruction; at one -/
inductive At (m : TMach) (at_ : Int) : Prop
  | no (h : hereM m at_ = false)
  | off (k : Nat) (s : TSess) (e : at_ = (k : Nat)) (hs : m.sess[k]? = some s) (hM : MayP m) (hS : SP m.words s) (hst : s.step ≠ 0)
  | fin (k : Nat) (s : TSess) (e : at_ = (k : Nat)) (hs : m.sess[k]? = some s) (hM : MayP m) (hS : SP m.words s) (hst : s.step = 0) (hp : s.pc = (s.prog.length : Int))
  | on (k n : Nat) (s : TSess) (i : TInst) (e : at_ = (k : Nat)) (hs : m.sess[k]? = some s) (hM : MayP m) (hS : SP m.words s) (hst : s.step = 0) (hp : s.pc = (n : Int)) (hn : n < s.prog.length) (hi : s.prog[n]? = some i)
theorem at_cases (m : TMach) (at_ : Int) : At m at_ := by
  rcases here_cases m at_ with h | ⟨k, s, e, hs, hM, hS⟩
  · exact .no h
  · by_cases hst : s.step = 0
    · have hp := inR_le.1 hS.pc
      by_cases hpl : s.pc = (s.prog.length : Int)
      · exact .fin k s e hs hM hS hst hpl
      · have hn : s.pc.toNat < s.prog.length := by omega
        exact .on k s.pc.toNat s s.prog[s.pc.toNat] e hs hM hS hst (by omega) hn (by simp [hn])
    · exact .off k s e hs hM hS hst
theorem here_k {m : TMach} {k : Nat} {s : TSess} (hs : m.sess[k]? = some s) (hM : MayP m) : hereM m k = true := here_of hM (get_lt hs)
theorem cur_no {m : TMach} {at_ : Int} (h : hereM m at_ = false) : curI m at_ = none := by simp [curI, h]
theorem cur_off {m : TMach} {k : Nat} {s : TSess} (hs : m.sess[k]? = some s) (hM : MayP m) (h : s.step ≠ 0) : curI m k = none := by
  simp only [curI, here_k hs hM, if_true, Int.toNat_natCast, hs, h, if_false]
theorem cur_fin {m : TMach} {k : Nat} {s : TSess} (hs : m.sess[k]? = some s) (hM : MayP m) (h : s.step = 0) (hp : s.pc = (s.prog.length : Int)) : curI m k = none := by
  simp only [curI, here_k hs hM, if_true, Int.toNat_natCast, hs, h, hp, List.getElem?_eq_none (Nat.le_refl _)]
theorem cur_on {m : TMach} {k n : Nat} {s : TSess} {i : TInst} (hs : m.sess[k]? = some s) (hM : MayP m) (h : s.step = 0) (hp : s.pc = (n : Int)) (hi : s.prog[n]? = some i) : curI m k = some (s, i) := by
  simp only [curI, here_k hs hM, if_true, Int.toNat_natCast, hs, h, hp, hi]
theorem prog_go : ∀ (l : List TInst) (n : Int) (j : Int), progGo n j l = true → ∀ (k : Nat) (i : TInst), l[k]? = some i → instMay i = true ∧ (i.code = 4 → j + k < i.b ∧ i.b ≤ n)
  | [], n, j, _, k, i, h => by simp at h
  | a :: l, n, j, hg, k, i, h => by
    simp only [progGo, Bool.and_eq_true, Bool.not_eq_true', Bool.and_eq_false_iff, Bool.or_eq_false_iff, decide_eq_false_iff_not] at hg
    cases k with
    | zero =>
      simp only [List.getElem?_cons_zero, Option.some.injEq] at h
      subst h
      refine ⟨hg.1.1, fun hc => ?_⟩
      rcases hg.1.2 with h | h
      · exact absurd hc h
      · simp only [Int.natCast_zero]; omega
    | succ k =>
      have := prog_go l n (j + 1) hg.2 k i (by simpa using h)
      refine ⟨this.1, fun hc => ?_⟩
      have := this.2 hc
      omega
theorem sp_inst {ws : A4 (List TWord)} {s : TSess} (h : SP ws s) {n : Nat} {i : TInst} (hi : s.prog[n]? = some i) : instMay i = true ∧ (i.code = 4 → (n : Int) < i.b ∧ i.b ≤ s.prog.length) ∧ ((i.code = 2 ∨ i.code = 3) → wThere ws i.b i.c = true) := by
  have hp := h.prog
  simp only [progMay, Bool.and_eq_true] at hp
  obtain ⟨h1, h2⟩ := prog_go _ _ _ hp.1 n i hi
  refine ⟨h1, fun hc => by have := h2 hc; omega, fun hc => ?_⟩
  have := h.pthere
  simp only [progThere, List.all_eq_true] at this
  have := this i (List.mem_of_getElem? hi)
  simp only [Bool.or_eq_true, Bool.not_eq_true', wordIs, Bool.or_eq_false_iff, decide_eq_false_iff_not] at this
  rcases this with h' | h'
  · exact absurd hc (by rintro (hc | hc); exact h'.1 hc; exact h'.2 hc)
  · exact h'
theorem inst_code {i : TInst} (h : instMay i = true) : i.code = 0 ∨ i.code = 1 ∨ i.code = 2 ∨ i.code = 3 ∨ i.code = 4 ∨ i.code = 5 ∨ i.code = 6 := by
  unfold instMay at h
  split at h
  · simp [*]
  split at h
  · simp [*]
  split at h
  · rename_i h'; rcases h' with h' | h' <;> simp [h']
  split at h
  · simp [*]
  split at h
  · simp [*]
  split at h
  · simp [*]
  · cases h
theorem inst_reg {i : TInst} (h : instMay i = true) (hc : i.code ≠ 5 ∧ i.code ≠ 6) : inR i.a 3 = true := by
  unfold instMay at h
  split at h
  · simp only [Bool.and_eq_true] at h; exact h.1.1
  split at h
  · simp only [Bool.and_eq_true] at h; exact h.1.1
  split at h
  · simp only [Bool.and_eq_true] at h; exact h.1.1
  split at h
  · simp only [Bool.and_eq_true] at h; exact h.1.1
  split at h
  · rename_i h5; exact absurd h5 hc.1
  split at h
  · rename_i h5; exact absurd h5 hc.2
  · cases h
theorem inst_told {i : TInst} (h : instMay i = true) (hc : i.code = 6) : inR i.a 255 = true := by
  unfold instMay at h
  simp only [hc] at h
  simp only [show ((6 : Int) = 0) = False by decide, show ((6 : Int) = 1) = False by decide, show ((6 : Int) = 2 ∨ (6 : Int) = 3) = False by decide, show ((6 : Int) = 4) = False by decide, show ((6 : Int) = 5) = False by decide, if_false, if_true, Bool.and_eq_true] at h
  exact h.1.1
theorem inst_lab {i : TInst} (h : instMay i = true) (hc : i.code = 2 ∨ i.code = 3) : inR i.b 3 = true ∧ inR i.c 3 = true := by
  unfold instMay at h
  have h0 : ¬ i.code = 0 := by omega
  have h1 : ¬ i.code = 1 := by omega
  simp only [h0, h1, if_false, hc, if_true, Bool.and_eq_true] at h
  exact ⟨h.1.2, h.2⟩
theorem inst_set {i : TInst} (h : instMay i = true) (hc : i.code = 0) : inR i.b 255 = true := by
  unfold instMay at h
  simp only [hc, if_true, Bool.and_eq_true] at h
  exact h.1.2
theorem inst_add {i : TInst} (h : instMay i = true) (hc : i.code = 1) : inR i.b 3 = true := by
  unfold instMay at h
  simp only [hc, show ((1 : Int) = 0) = False by decide, if_false, if_true, Bool.and_eq_true] at h
  exact h.1.2
/-- the write that is next -/
inductive Lf (m : TMach) (at_ step : Int) : Prop
  | no (h : hereM m at_ = false)
  | off (k : Nat) (s : TSess) (e : at_ = (k : Nat)) (hs : m.sess[k]? = some s) (hM : MayP m) (hS : SP m.words s) (hst : s.step ≠ step)
  | fin (k : Nat) (s : TSess) (e : at_ = (k : Nat)) (hs : m.sess[k]? = some s) (hM : MayP m) (hS : SP m.words s) (hst : s.step = step) (hp : s.at_ = (s.writes.length : Int))
  | on (k n : Nat) (s : TSess) (w : TWrite) (e : at_ = (k : Nat)) (hs : m.sess[k]? = some s) (hM : MayP m) (hS : SP m.words s) (hst : s.step = step) (hp : s.at_ = (n : Int)) (hn : n < s.writes.length) (hi : s.writes[n]? = some w)
theorem lf_cases (m : TMach) (at_ step : Int) : Lf m at_ step := by
  rcases here_cases m at_ with h | ⟨k, s, e, hs, hM, hS⟩
  · exact .no h
  · by_cases hst : s.step = step
    · have hp := inR_le.1 hS.at_
      by_cases hpl : s.at_ = (s.writes.length : Int)
      · exact .fin k s e hs hM hS hst hpl
      · have hn : s.at_.toNat < s.writes.length := by omega
        exact .on k s.at_.toNat s s.writes[s.at_.toNat] e hs hM hS hst (by omega) hn (by simp [hn])
    · exact .off k s e hs hM hS hst
theorem curS_no {m : TMach} {at_ st : Int} (h : hereM m at_ = false) : curS m at_ st = none := by simp [curS, h]
theorem curS_off {m : TMach} {k : Nat} {s : TSess} {st : Int} (hs : m.sess[k]? = some s) (hM : MayP m) (h : s.step ≠ st) : curS m k st = none := by
  simp only [curS, here_k hs hM, if_true, Int.toNat_natCast, hs, h, if_false]
theorem curS_on {m : TMach} {k : Nat} {s : TSess} {st : Int} (hs : m.sess[k]? = some s) (hM : MayP m) (h : s.step = st) : curS m k st = some s := by
  simp only [curS, here_k hs hM, if_true, Int.toNat_natCast, hs, h]
theorem left_none {m : TMach} {at_ st : Int} (h : curS m at_ st = none) : leftM m at_ st = none := by unfold leftM; rw [h]
theorem left_fin {m : TMach} {k : Nat} {s : TSess} {st : Int} (hs : m.sess[k]? = some s) (hM : MayP m) (h : s.step = st) (hp : s.at_ = (s.writes.length : Int)) : leftM m k st = none := by
  have h1 : s.writes[s.at_.toNat]? = none := by rw [hp]; simp
  unfold leftM; rw [curS_on hs hM h]; simp only [h1]
theorem left_on {m : TMach} {k n : Nat} {s : TSess} {w : TWrite} {st : Int} (hs : m.sess[k]? = some s) (hM : MayP m) (h : s.step = st) (hp : s.at_ = (n : Int)) (hi : s.writes[n]? = some w) : leftM m k st = some (s, w) := by
  have h1 : s.writes[s.at_.toNat]? = some w := by rw [hp]; simpa using hi
  unfold leftM; rw [curS_on hs hM h]; simp only [h1]
theorem wth_write {ws : A4 (List TWord)} {s : TSess} (h : SP ws s) {n : Nat} {w : TWrite} (hi : s.writes[n]? = some w) : wThere ws w.level w.index = true ∧ write1 w = true := by
  have h1 := h.wthere
  simp only [writesThere, List.all_eq_true] at h1
  exact ⟨h1 w (List.mem_of_getElem? hi), (writes_may h.writes).1 w (List.mem_of_getElem? hi)⟩
end Ve

/- Laws of the models: a word written back. -/
namespace Ve
open Go
theorem setA_len {α : Type} (ws : A4 (List α)) (l i : Int) (w : α) : (setA ws l i w).a0.length = ws.a0.length ∧ (setA ws l i w).a1.length = ws.a1.length ∧ (setA ws l i w).a2.length = ws.a2.length ∧ (setA ws l i w).a3.length = ws.a3.length := by
  unfold setA A4.set A4.get
  split
  · simp
  · split
    · simp
    · split <;> simp
theorem row_set {l : List TWord} (h : rowMay l = true) (i : Nat) {w : TWord} (hw : wordMay w = true) : rowMay (l.set i w) = true := by
  simp only [rowMay, Bool.and_eq_true, List.length_set, List.all_eq_true] at h ⊢
  refine ⟨h.1, fun x hx => ?_⟩
  rcases List.mem_or_eq_of_mem_set hx with hx | rfl
  · exact h.2 x hx
  · exact hw
theorem arena_set {ws : A4 (List TWord)} (h : arenaMay ws = true) (l i : Int) {w : TWord} (hw : wordMay w = true) : arenaMay (setA ws l i w) = true := by
  simp only [arenaMay, A4.all, Bool.and_eq_true] at h ⊢
  obtain ⟨⟨⟨h0, h1⟩, h2⟩, h3⟩ := h
  unfold setA A4.set A4.get
  split
  · exact ⟨⟨⟨row_set h0 _ hw, h1⟩, h2⟩, h3⟩
  · split
    · exact ⟨⟨⟨h0, row_set h1 _ hw⟩, h2⟩, h3⟩
    · split
      · exact ⟨⟨⟨h0, h1⟩, row_set h2 _ hw⟩, h3⟩
      · exact ⟨⟨⟨h0, h1⟩, h2⟩, row_set h3 _ hw⟩
theorem setW_may {m : TMach} (hM : MayP m) (l i : Int) {w : TWord} (hw : wordMay w = true) : MayP (setW m l i w) := by
  obtain ⟨h0, h1, h2, h3⟩ := setA_len m.words l i w
  exact mayP_words hM (arena_set hM.arena l i hw) h0 h1 h2 h3
theorem sp_setW {m : TMach} {s : TSess} (l i : Int) (w : TWord) : SP (setW m l i w).words s ↔ SP m.words s := by
  obtain ⟨h0, h1, h2, h3⟩ := setA_len m.words l i w
  rw [← sp, ← sp, sessMay_len (ws := m.words) (ws' := (setW m l i w).words) (fun l i => wThere_len h0 h1 h2 h3 l i)]
theorem wrote_may {m : TMach} {k n : Nat} {s : TSess} {w : TWrite} (hs : m.sess[k]? = some s) (hM : MayP m) (hS : SP m.words s) (hp : s.at_ = (n : Int)) (hn : n < s.writes.length) (hv : inR w.val 255 = true) : MayP (wroteM m k s w) := by
  have hw : wordMay ⟨w.val, s.stamp, 0⟩ = true := by simp only [wordMay, hv, hS.stamp]; rfl
  refine mayP_set (setW_may hM _ _ hw) (s := s) hs rfl ((sp_setW _ _ _).2 ?_)
  exact { hS with at_ := by rw [inR_le]; show 0 ≤ s.at_ + 1 ∧ s.at_ + 1 ≤ (s.writes.length : Int); omega }
/-- what a word is, behind a writing -/
def wantW (last : Bool) (s : TSess) (w : TWrite) (g i : Int) (v : TWord) : TWord :=
  if (decide (g = w.level) && decide (i = w.index)) = true then ⟨w.val, s.stamp, 0⟩ else if (last && decide (v.lock = s.id + 1)) = true then ⟨v.val, v.ver, 0⟩ else v
theorem freeW_new (c a b : Int) : freeW c ⟨a, b, 0⟩ = ⟨a, b, 0⟩ := by unfold freeW; split <;> rfl
theorem get_set_row (ws : A4 (List TWord)) (w : TWrite) (x : TWord) (g : Int) (i : Nat) (v : TWord) (hg : inR g 3 = true) (hl : inR w.level 3 = true) (hi0 : 0 ≤ w.index) (hv : (ws.get g)[i]? = some v) :
    ((setA ws w.level w.index x).get g)[i]? = some (if (decide (g = w.level) && decide ((i : Int) = w.index)) = true then x else v) := by
  have hlen := get_lt hv
  rw [inR_le] at hg hl
  have key : ∀ l : List TWord, l[i]? = some v → (l.set w.index.toNat x)[i]? = some (if ((i : Int) = w.index) then x else v) := by
    intro l h
    have hlen := get_lt h
    rw [List.getElem?_set]
    by_cases hc : (i : Int) = w.index
    · have : w.index.toNat = i := by omega
      simp [this, hlen, hc]
    · have : ¬ w.index.toNat = i := by omega
      simp [this, hc, h]
  by_cases hgl : g = w.level
  · have e : (decide (g = w.level) && decide ((i : Int) = w.index)) = decide ((i : Int) = w.index) := by simp [hgl]
    rw [e]
    have e2 : (if decide ((i : Int) = w.index) = true then x else v) = if (i : Int) = w.index then x else v := by simp
    rw [e2, ← key _ hv]
    congr 1
    rw [← hgl]
    unfold setA A4.set A4.get
    split
    · simp_all
    · split
      · simp_all
      · split <;> simp_all
  · have e : (decide (g = w.level) && decide ((i : Int) = w.index)) = false := by simp [hgl]
    rw [e]
    simp only [Bool.false_eq_true, if_false]
    rw [← hv]
    congr 1
    unfold setA A4.set A4.get
    have h4 : (g = 0 ∨ g = 1 ∨ g = 2 ∨ g = 3) ∧ (w.level = 0 ∨ w.level = 1 ∨ w.level = 2 ∨ w.level = 3) := by omega
    obtain ⟨h4, h5⟩ := h4
    rcases h4 with h4 | h4 | h4 | h4 <;> rcases h5 with h5 | h5 | h5 | h5 <;> first | (exfalso; omega) | (rw [h4, h5]; rfl)
theorem get_free (c : Int) (m : TMach) (g : Int) (i : Nat) : ((freeM c m).words.get g)[i]? = ((m.words.get g)[i]?).map (freeW c) := by
  unfold freeM A4.get
  split
  · simp
  · split
    · simp
    · split <;> simp
theorem free_len (c : Int) (m : TMach) : (freeM c m).words.a0.length = m.words.a0.length ∧ (freeM c m).words.a1.length = m.words.a1.length ∧ (freeM c m).words.a2.length = m.words.a2.length ∧ (freeM c m).words.a3.length = m.words.a3.length := by
  simp [freeM]
/-- what a writing leaves -/
structure Wrote (m : TMach) (k : Nat) (s : TSess) (w : TWrite) (last : Bool) (a : TMach) (t : TSess) : Prop where
  l0 : a.words.a0.length = m.words.a0.length
  l1 : a.words.a1.length = m.words.a1.length
  l2 : a.words.a2.length = m.words.a2.length
  l3 : a.words.a3.length = m.words.a3.length
  word : ∀ (g : Int) (i : Nat) (v : TWord), inR g 3 = true → (m.words.get g)[i]? = some v → (a.words.get g)[i]? = some (wantW last s w g i v)
  clocks : a.clocks = m.clocks
  slen : a.sess.length = m.sess.length
  sess : a.sess[k]? = some t
  done : last = true → t.step = 6 ∧ t.result = 1
  more : last = false → t.at_ = s.at_ + 1 ∧ t.step = 4
theorem back_leaves {m : TMach} {k n : Nat} {s : TSess} {w : TWrite} (hs : m.sess[k]? = some s) (hM : MayP m) (hS : SP m.words s) (hst : s.step = 4) (hp : s.at_ = (n : Int)) (hn : n < s.writes.length) (hi : s.writes[n]? = some w) :
    ∃ t, Wrote m k s w (decide (s.at_ + 1 = s.writes.length)) (backM m k).1 t ∧ (backM m k).2 = 0 := by
  have hl := left_on hs hM hst hp hi
  obtain ⟨h1, h2⟩ := wth_write hS hi
  simp only [write1, Bool.and_eq_true] at h2
  have h3 := h1
  simp only [wThere, Bool.and_eq_true, decide_eq_true_eq] at h3
  have hmay := wrote_may hs hM hS hp hn h2.2
  obtain ⟨q0, q1, q2, q3⟩ := setA_len m.words w.level w.index ⟨w.val, s.stamp, 0⟩
  have hk := get_lt hs
  have hs' : (wroteM m k s w).sess[k]? = some { s with at_ := s.at_ + 1 } := List.getElem?_set_self (by simpa [setW] using hk)
  by_cases hlast : s.at_ + 1 = s.writes.length
  · have e : backM m k = endM (wroteM m k s w) k 1 0 := by unfold backM; rw [hl]; simp only [hlast, if_true]
    rw [e, end_at hs' hmay (by decide) (by decide)]
    have hd : decide (s.at_ + 1 = (s.writes.length : Int)) = true := by simpa using hlast
    rw [hd]
    obtain ⟨f0, f1, f2, f3⟩ := free_len (s.id + 1) (wroteM m k s w)
    refine ⟨endS { s with at_ := s.at_ + 1 } 1 0, ⟨?_, ?_, ?_, ?_, ?_, ?_, ?_, ?_, fun _ => ⟨rfl, rfl⟩, fun h => by cases h⟩, rfl⟩
    · rw [ended_words]; exact f0.trans q0
    · rw [ended_words]; exact f1.trans q1
    · rw [ended_words]; exact f2.trans q2
    · rw [ended_words]; exact f3.trans q3
    · intro g i v hg hv
      rw [ended_words, get_free]
      have := get_set_row m.words w ⟨w.val, s.stamp, 0⟩ g i v hg h2.1.1 h3.1.2 hv
      show (((setA m.words w.level w.index ⟨w.val, s.stamp, 0⟩).get g)[i]?).map (freeW (s.id + 1)) = _
      rw [this]
      simp only [Option.map_some, wantW, Bool.true_and]
      congr 1
      split
      · exact freeW_new _ _ _
      · unfold freeW
        by_cases hc : v.lock = s.id + 1
        · simp [hc]
        · simp [hc]
    · rw [ended_clocks]; rfl
    · rw [ended_sess]; simp [wroteM, setS, setW]
    · rw [ended_sess]; exact List.getElem?_set_self (by simpa [wroteM, setS, setW] using hk)
  · have e : backM m k = (wroteM m k s w, 0) := by unfold backM; rw [hl]; simp only [hlast, if_false]
    rw [e]
    have hd : decide (s.at_ + 1 = (s.writes.length : Int)) = false := by simpa using hlast
    rw [hd]
    refine ⟨{ s with at_ := s.at_ + 1 }, ⟨q0, q1, q2, q3, ?_, rfl, by simp [wroteM, setS, setW], hs', (fun h => by cases h), fun _ => ⟨rfl, hst⟩⟩, rfl⟩
    intro g i v hg hv
    have := get_set_row m.words w ⟨w.val, s.stamp, 0⟩ g i v hg h2.1.1 h3.1.2 hv
    show ((setA m.words w.level w.index ⟨w.val, s.stamp, 0⟩).get g)[i]? = _
    rw [this]
    simp only [wantW, Bool.false_and, Bool.false_eq_true, if_false]
end Ve

/- The machine with which the statements begin. -/
namespace Ve
open Go
def MB : TMach := ⟨⟨[⟨5, 0, 0⟩, ⟨6, 0, 0⟩], [⟨7, 0, 0⟩], [], [⟨9, 0, 0⟩]⟩, ⟨0, 0, 0, 0⟩, 9, [⟨3, 0, 3, [⟨2, 0, 0, 0⟩, ⟨1, 0, 0, 0⟩, ⟨3, 0, 0, 0⟩], 0, 0, ⟨0, 0, 0, 0⟩, [], [], 0, 0, 0, 0, 0⟩, ⟨5, 1, 1, [⟨2, 0, 0, 1⟩, ⟨3, 0, 1, 0⟩], 0, 0, ⟨0, 0, 0, 0⟩, [], [], 0, 0, 0, 0, 0⟩], []⟩
end Ve

/- The machine of two sessions, the first of which is at its program's end. -/
namespace Ve
open Go
def MF (lk c ceil st at_ sp : Int) (r : A4 Int) : TMach := ⟨⟨[⟨5, 0, lk⟩, ⟨6, 0, 0⟩], [⟨7, 0, 0⟩], [], [⟨9, 0, 0⟩]⟩, ⟨c, 0, 0, 0⟩, ceil, [⟨3, 0, 3, [⟨2, 0, 0, 0⟩, ⟨1, 0, 0, 0⟩, ⟨3, 0, 0, 0⟩], st, 3, r, [⟨0, 0, 0⟩], [⟨0, 0, 10⟩], at_, sp, 0, 0, 0⟩, ⟨5, 1, 1, [⟨2, 0, 0, 1⟩, ⟨3, 0, 1, 0⟩], 0, 0, ⟨0, 0, 0, 0⟩, [], [], 0, 0, 0, 0, 0⟩], [⟨3, 0, 0, 5⟩, ⟨3, 0, 1, 10⟩]⟩
theorem mf_sm (lk c ceil st at_ sp : Int) (r : A4 Int) : SmM (MF lk c ceil st at_ sp r) := by
  refine ⟨by simp [MF], by simp [MF], by simp [MF], by simp [MF], by simp [MF], by simp [MF], ?_⟩
  intro s hs
  simp only [MF, List.mem_cons, List.mem_nil_iff, or_false] at hs
  rcases hs with rfl | rfl <;> exact ⟨by simp, by simp, by simp⟩
theorem curS_not {m : TMach} {at_ st : Int} {s : TSess} (hs : m.sess[at_.toNat]? = some s) (h : s.step ≠ st) : curS m at_ st = none := by
  unfold curS
  split
  · rw [hs]; simp only [h, if_false]
  · rfl
theorem neg_no {D c : Int} (h : 1 ≤ D) : inR (-D) c = false := by
  cases h' : inR (-D) c with
  | false => rfl
  | true => rw [inR_le] at h'; omega
theorem here_sess {m : TMach} {at_ : Int} {s : TSess} (hs : s ∈ m.sess) (h : regsMay s.regs = false) : hereM m at_ = false := by
  cases hh : hereM m at_ with
  | false => rfl
  | true =>
    simp only [hereM, Bool.and_eq_true] at hh
    have := (sp _ _).1 (((mayP m).1 hh.1.1).sess s hs)
    rw [this.regs] at h; cases h
/-- machines, sessions that are none -/
theorem mf_at {lk c ceil st at_ sp a ST : Int} {r : A4 Int} (h : a < 0 ∨ 2 ≤ a) : curS (MF lk c ceil st at_ sp r) a ST = none :=
  curS_no (by
    simp only [hereM, Bool.and_eq_false_iff, decide_eq_false_iff_not, MF, List.length_cons, List.length_nil]
    rcases h with h | h
    · exact .inl (.inr (by omega))
    · exact .inr (by simp; omega))
theorem mf_ceil {lk c D st at_ sp a ST : Int} {r : A4 Int} (h : 1 ≤ D) : curS (MF lk c (-D) st at_ sp r) a ST = none :=
  curS_no (by simp only [hereM, mayM, MF, neg_no h, Bool.and_false, Bool.false_and])
theorem mf_step {lk c ceil st at_ sp ST : Int} {r : A4 Int} (h : st ≠ ST) : curS (MF lk c ceil st at_ sp r) 0 ST = none := curS_not (s := ⟨3, 0, 3, [⟨2, 0, 0, 0⟩, ⟨1, 0, 0, 0⟩, ⟨3, 0, 0, 0⟩], st, 3, r, [⟨0, 0, 0⟩], [⟨0, 0, 10⟩], at_, sp, 0, 0, 0⟩) rfl h
theorem mf_one {lk c ceil st at_ sp ST : Int} {r : A4 Int} (h : 0 ≠ ST) : curS (MF lk c ceil st at_ sp r) 1 ST = none := curS_not (s := ⟨5, 1, 1, [⟨2, 0, 0, 1⟩, ⟨3, 0, 1, 0⟩], 0, 0, ⟨0, 0, 0, 0⟩, [], [], 0, 0, 0, 0, 0⟩) rfl h
theorem mf_regs {lk c ceil st at_ sp a ST : Int} {r : A4 Int} (h : regsMay r = false) : curS (MF lk c ceil st at_ sp r) a ST = none :=
  curS_no (here_sess (List.mem_cons_self ..) h)
end Ve

/- Laws of the models: labels that rise; what a check leaves. -/
namespace Ve
open Go
theorem lab4 {a : Int} (h : inR a 3 = true) : a = 0 ∨ a = 1 ∨ a = 2 ∨ a = 3 := by rw [inR_le] at h; omega
theorem or_lab {a b : Int} (ha : inR a 3 = true) (hb : inR b 3 = true) : inR (orI a b) 3 = true ∧ orI (orI a b) a = orI a b ∧ under b (orI a b) = true ∧ (under b a = false → decide (orI a b = a) = false) := by
  rcases lab4 ha with rfl | rfl | rfl | rfl <;> rcases lab4 hb with rfl | rfl | rfl | rfl <;> decide
/-- a label that rose -/
def upM (m : TMach) (k : Nat) (s : TSess) (l : Int) : TMach := setS (tellM m ⟨s.id, s.label, 2, l⟩) k { s with label := l }
theorem up_may {m : TMach} {k : Nat} {s : TSess} {l : Int} (hs : m.sess[k]? = some s) (hM : MayP m) (hS : SP m.words s) (hl : inR l 3 = true) (hc : under l s.clear = true) : MayP (upM m k s l) := by
  refine mayP_set (mayP_tell hM hS.label) (s := s) (by rw [tell_sess]; exact hs) rfl ?_
  rw [tell_words]
  exact { hS with label := hl, under := hc }
theorem up_sess {m : TMach} {k : Nat} {s : TSess} {l : Int} : (upM m k s l).sess = m.sess.set k { s with label := l } := by unfold upM setS; rw [tell_sess]
theorem up_words {m : TMach} {k : Nat} {s : TSess} {l : Int} : (upM m k s l).words = m.words := by unfold upM setS; rw [tell_words]
theorem up_clocks {m : TMach} {k : Nat} {s : TSess} {l : Int} : (upM m k s l).clocks = m.clocks := by unfold upM setS; rw [tell_clocks]
theorem sm_up {m : TMach} (hm : SmM m) {k : Nat} {s : TSess} {l : Int} (hs : m.sess[k]? = some s) : SmM (upM m k s l) := by
  have h := hm.s s (List.mem_of_getElem? hs)
  exact sm_set (sm_tell hm _) _ _ ⟨h.bp, h.br, h.bw⟩
theorem good_may {m : TMach} {s : TSess} (hM : MayP m) (hS : SP m.words s) : goodM m.words s.reads s.id = (s.reads.all (goodR m.words s.id), 0) := by
  unfold goodM; rw [hM.arena, hS.reads, hS.rthere, hS.id]; rfl
theorem changed_may {m : TMach} {s : TSess} (hM : MayP m) (hS : SP m.words s) : changedM m.words s.reads = (s.reads.any (chgR m.words), 0) := by
  unfold changedM; rw [hM.arena, hS.reads, hS.rthere]; rfl
end Ve

/- The machine of which a session reads level 3. -/
namespace Ve
open Go
def MHg (ceil st pc : Int) (x : TInst) : TMach := ⟨⟨[⟨5, 0, 0⟩, ⟨6, 0, 0⟩], [⟨7, 0, 0⟩], [], [⟨9, 0, 0⟩]⟩, ⟨0, 0, 0, 0⟩, ceil, [⟨3, 0, 3, [⟨2, 0, 0, 0⟩, ⟨1, 0, 0, 0⟩, ⟨3, 0, 0, 0⟩], 0, 0, ⟨0, 0, 0, 0⟩, [], [], 0, 0, 0, 0, 0⟩, ⟨5, 1, 3, [x], st, pc, ⟨0, 0, 0, 0⟩, [], [], 0, 0, 0, 0, 0⟩], []⟩
theorem mh_sm (ceil st pc : Int) (x : TInst) : SmM (MHg ceil st pc x) := by
  refine ⟨by simp [MHg], by simp [MHg], by simp [MHg], by simp [MHg], by simp [MHg], by simp [MHg], ?_⟩
  intro s hs
  simp only [MHg, List.mem_cons, List.mem_nil_iff, or_false] at hs
  rcases hs with rfl | rfl <;> exact ⟨by simp, by simp, by simp⟩
theorem mb_sm : SmM MB := by
  refine ⟨by decide, by decide, by decide, by decide, by decide, by decide, ?_⟩
  intro s hs
  simp only [MB, List.mem_cons, List.mem_nil_iff, or_false] at hs
  rcases hs with rfl | rfl <;> exact ⟨by decide, by decide, by decide⟩
abbrev NoR (m : TMach) (a : Int) : Prop := curI m a = none ∨ ∃ s x, curI m a = some (s, x) ∧ ¬ x.code = 2
theorem mh_at {c st pc a : Int} {x : TInst} (h : a < 0 ∨ 2 ≤ a) : NoR (MHg c st pc x) a := .inl (cur_no (by
  simp only [hereM, Bool.and_eq_false_iff, decide_eq_false_iff_not, MHg, List.length_cons, List.length_nil]
  rcases h with h | h
  · exact .inl (.inr (by omega))
  · exact .inr (by simp; omega)))
theorem mh_ceil {D st pc a : Int} {x : TInst} (h : 1 ≤ D) : NoR (MHg (-D) st pc x) a := .inl (cur_no (by simp only [hereM, mayM, MHg, neg_no h, Bool.and_false, Bool.false_and]))
theorem mh_step {c st pc : Int} {x : TInst} (h : st ≠ 0) : NoR (MHg c st pc x) 1 := by
  left
  unfold curI
  split
  · have : (MHg c st pc x).sess[(1 : Int).toNat]? = some ⟨5, 1, 3, [x], st, pc, ⟨0, 0, 0, 0⟩, [], [], 0, 0, 0, 0, 0⟩ := rfl
    rw [this]; simp only [h, if_false]
  · rfl
theorem mh_pc {c st : Int} {x : TInst} : NoR (MHg c st 1 x) 1 := by
  left
  unfold curI
  split
  · have : (MHg c st 1 x).sess[(1 : Int).toNat]? = some ⟨5, 1, 3, [x], st, 1, ⟨0, 0, 0, 0⟩, [], [], 0, 0, 0, 0, 0⟩ := rfl
    rw [this]
    by_cases h : st = 0
    · simp [h]
    · simp [h]
  · rfl
theorem mh_code {c st : Int} {x : TInst} (h : ¬ x.code = 2) : NoR (MHg c st 0 x) 1 := by
  unfold NoR curI
  split
  · have : (MHg c st 0 x).sess[(1 : Int).toNat]? = some ⟨5, 1, 3, [x], st, 0, ⟨0, 0, 0, 0⟩, [], [], 0, 0, 0, 0, 0⟩ := rfl
    rw [this]
    by_cases h' : st = 0
    · right; refine ⟨⟨5, 1, 3, [x], st, 0, ⟨0, 0, 0, 0⟩, [], [], 0, 0, 0, 0, 0⟩, x, ?_, h⟩; simp [h']
    · left; simp [h']
  · exact .inl rfl
theorem mb_needs : needsM MB 0 = (false, 0) := by decide +kernel
end Ve
