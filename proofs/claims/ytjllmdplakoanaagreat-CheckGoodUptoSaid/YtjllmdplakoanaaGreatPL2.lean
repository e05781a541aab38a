/- Laws of the models: what a step leaves may be. -/
import Derived.Test.YtjllmdplakoanaaGreatVeM
set_option linter.all false
set_option linter.unusedSectionVars false
namespace Ve
open Go
theorem a4_ext {α : Type} {a b : A4 α} (h0 : a.a0 = b.a0) (h1 : a.a1 = b.a1) (h2 : a.a2 = b.a2) (h3 : a.a3 = b.a3) : a = b := by
  cases a; cases b; simp_all
theorem wThere_len {ws ws' : A4 (List TWord)} (h0 : ws'.a0.length = ws.a0.length) (h1 : ws'.a1.length = ws.a1.length) (h2 : ws'.a2.length = ws.a2.length) (h3 : ws'.a3.length = ws.a3.length) (l i : Int) : wThere ws' l i = wThere ws l i := by
  have : (ws'.get l).length = (ws.get l).length := by
    simp only [A4.get]; split
    · exact h0
    · split
      · exact h1
      · split
        · exact h2
        · exact h3
  simp only [wThere, this]
theorem sessMay_len {ws ws' : A4 (List TWord)} (h : ∀ l i, wThere ws' l i = wThere ws l i) (s : TSess) : sessMay ws' s = sessMay ws s := by
  simp only [sessMay, readsThere, writesThere, progThere, h]
def idsI : Option Int → List Int → Bool
  | _, [] => true
  | none, s :: t => idsI (some s) t
  | some v, s :: t => decide (v < s) && idsI (some s) t
theorem idsGo_map : ∀ (l : List TSess) (o : Option Int), idsGo o l = idsI o (l.map (·.id))
  | [], o => by cases o <;> rfl
  | a :: l, none => by simp only [idsGo, List.map_cons, idsI]; exact idsGo_map l _
  | a :: l, some v => by simp only [idsGo, List.map_cons, idsI]; rw [idsGo_map l]
theorem map_set_id {l : List TSess} {k : Nat} {s s' : TSess} (hs : l[k]? = some s) (h : s'.id = s.id) : (l.set k s').map (·.id) = l.map (·.id) := by
  rw [List.map_set, h]
  apply List.ext_getElem?
  intro i
  rw [List.getElem?_set]
  split
  · rename_i e; subst e
    have hl := get_lt hs
    have : l[k] = s := by rw [List.getElem?_eq_getElem hl] at hs; exact Option.some.inj hs
    simp [hl, this]
  · rfl
/-- the parts of sessMay -/
structure SP (ws : A4 (List TWord)) (s : TSess) : Prop where
  id : inR s.id 254 = true
  label : inR s.label 3 = true
  clear : inR s.clear 3 = true
  under : under s.label s.clear = true
  prog : progMay s.prog = true
  reads : readsMay s.reads = true
  writes : writesMay s.writes = true
  rthere : readsThere ws s.reads = true
  wthere : writesThere ws s.writes = true
  pthere : progThere ws s.prog = true
  pc : inR s.pc s.prog.length = true
  at_ : inR s.at_ s.writes.length = true
  step : inR s.step 6 = true
  result : inR s.result 5 = true
  regs : regsMay s.regs = true
  stamp : inR s.stamp 65535 = true
  tries : inR s.tries 65535 = true
  told : inR s.told 255 = true
theorem sp (ws : A4 (List TWord)) (s : TSess) : sessMay ws s = true ↔ SP ws s := by
  simp only [sessMay, startMay, Bool.and_eq_true]
  constructor
  · rintro ⟨⟨⟨⟨⟨⟨⟨⟨⟨⟨a, b⟩, c⟩, d⟩, e⟩, ⟨⟨⟨f, g⟩, h⟩, i⟩, j⟩, ⟨⟨k, l⟩, m⟩, n⟩, o⟩, p⟩, q⟩, r⟩
    exact ⟨a, b, c, d, e, f, g, h, i, j, k, l, m, n, o, p, q, r⟩
  · rintro ⟨a, b, c, d, e, f, g, h, i, j, k, l, m, n, o, p, q, r⟩
    exact ⟨⟨⟨⟨⟨⟨⟨⟨⟨⟨a, b⟩, c⟩, d⟩, e⟩, ⟨⟨⟨f, g⟩, h⟩, i⟩, j⟩, ⟨⟨k, l⟩, m⟩, n⟩, o⟩, p⟩, q⟩, r⟩
/-- the parts of mayM -/
structure MayP (m : TMach) : Prop where
  arena : arenaMay m.words = true
  ceil : inR m.ceil 65535 = true
  clocks : m.clocks.all (fun c => inR c m.ceil) = true
  sl : m.sess.length ≤ 4
  tl : m.trace.length ≤ 512
  ids : idsI none (m.sess.map (·.id)) = true
  sess : ∀ s ∈ m.sess, sessMay m.words s = true
  trace : ∀ e ∈ m.trace, inR e.label 3 = true
theorem mayP (m : TMach) : mayM m = true ↔ MayP m := by
  simp only [mayM, Bool.and_eq_true, decide_eq_true_eq, List.all_eq_true, idsGo_map]
  constructor
  · rintro ⟨⟨⟨⟨⟨⟨⟨a, b⟩, c⟩, d⟩, e⟩, f⟩, g⟩, h⟩
    exact ⟨a, b, c, d, e, f, g, h⟩
  · rintro ⟨a, b, c, d, e, f, g, h⟩
    exact ⟨⟨⟨⟨⟨⟨⟨a, b⟩, c⟩, d⟩, e⟩, f⟩, g⟩, h⟩
theorem mayP_tell {m : TMach} (h : MayP m) {e : TEvent} (he : inR e.label 3 = true) : MayP (tellM m e) := by
  unfold tellM
  split
  · rename_i hl
    refine ⟨h.arena, h.ceil, h.clocks, h.sl, by simp; omega, h.ids, h.sess, ?_⟩
    intro x hx
    rcases List.mem_append.1 hx with hx | hx
    · exact h.trace x hx
    · simp only [List.mem_singleton] at hx; subst hx; exact he
  · exact h
theorem mayP_set {m : TMach} (h : MayP m) {k : Nat} {s s' : TSess} (hs : m.sess[k]? = some s) (hid : s'.id = s.id) (hm : SP m.words s') : MayP (setS m k s') := by
  refine ⟨h.arena, h.ceil, h.clocks, by simpa [setS] using h.sl, h.tl, ?_, ?_, h.trace⟩
  · simp only [setS]; rw [map_set_id hs hid]; exact h.ids
  · intro x hx
    simp only [setS] at hx
    rcases List.mem_or_eq_of_mem_set hx with hx | rfl
    · exact h.sess x hx
    · exact (sp _ _).2 hm
theorem wordMay_free {w : TWord} (c : Int) (h : wordMay w = true) : wordMay (freeW c w) = true := by
  unfold freeW
  split
  · simp only [wordMay, Bool.and_eq_true] at h ⊢
    exact ⟨h.1, by decide⟩
  · exact h
theorem rowMay_free {l : List TWord} (c : Int) (h : rowMay l = true) : rowMay (l.map (freeW c)) = true := by
  simp only [rowMay, Bool.and_eq_true, List.length_map, List.all_eq_true] at h ⊢
  refine ⟨h.1, ?_⟩
  intro x hx
  obtain ⟨y, hy, rfl⟩ := List.mem_map.1 hx
  exact wordMay_free c (h.2 y hy)
/-- other words, of the same places -/
theorem mayP_words {m : TMach} (h : MayP m) {ws : A4 (List TWord)} (ha : arenaMay ws = true) (h0 : ws.a0.length = m.words.a0.length) (h1 : ws.a1.length = m.words.a1.length) (h2 : ws.a2.length = m.words.a2.length) (h3 : ws.a3.length = m.words.a3.length) : MayP { m with words := ws } :=
  ⟨ha, h.ceil, h.clocks, h.sl, h.tl, h.ids, fun s hs => by rw [sessMay_len (fun l i => wThere_len h0 h1 h2 h3 l i)]; exact h.sess s hs, h.trace⟩
theorem mayP_free {m : TMach} (h : MayP m) (c : Int) : MayP (freeM c m) := by
  refine mayP_words h ?_ (by simp) (by simp) (by simp) (by simp)
  have := h.arena
  simp only [arenaMay, A4.all, Bool.and_eq_true] at this ⊢
  exact ⟨⟨⟨rowMay_free c this.1.1.1, rowMay_free c this.1.1.2⟩, rowMay_free c this.1.2⟩, rowMay_free c this.2⟩
theorem reads_nil : readsMay [] = true := by decide
theorem writes_nil : writesMay [] = true := by decide
theorem sp_drop {ws : A4 (List TWord)} {s : TSess} (h : SP ws s) : SP ws (dropS s) :=
  { h with reads := reads_nil, writes := writes_nil, rthere := rfl, wthere := rfl, at_ := by simp [dropS, inR], stamp := by rfl }
theorem inR_le {x c : Int} : inR x c = true ↔ 0 ≤ x ∧ x ≤ c := by simp [inR]
theorem wrap_small {a : Int} (h1 : 0 ≤ a) (h2 : a ≤ 9000000000000000000) : IntKind.wrap .i64 a = a := wr_id (by omega) (by omega)
theorem minT_in {t : Int} (h : inR t 65535 = true) : inR (minT t) 65535 = true := by
  rw [inR_le] at h
  unfold minT
  rw [wrap_small (by omega) (by omega)]
  split
  · decide
  · rw [inR_le]; omega
theorem minT_eq {t : Int} (h : inR t 65535 = true) : minT t = if t = 65535 then 65535 else t + 1 := by
  rw [inR_le] at h
  unfold minT
  rw [wrap_small (by omega) (by omega)]
  split <;> split <;> omega
theorem sp_again {ws : A4 (List TWord)} {s : TSess} (h : SP ws s) : SP ws (againS s) :=
  { sp_drop h with pc := by simp [againS, inR], regs := by rfl, step := by rfl, tries := minT_in h.tries }
theorem sp_end {ws : A4 (List TWord)} {s : TSess} (h : SP ws s) {r t : Int} (hr : inR r 5 = true) (ht : inR t 255 = true) : SP ws (endS s r t) :=
  { sp_drop h with step := by rfl, result := hr, told := ht }
theorem sp_free {m : TMach} {s : TSess} (c : Int) : SP (freeM c m).words s ↔ SP m.words s := by
  rw [← sp, ← sp, sessMay_len (ws := m.words) (ws' := (freeM c m).words) (fun l i => wThere_len (by simp [freeM]) (by simp [freeM]) (by simp [freeM]) (by simp [freeM]) l i)]
/-- a machine with a session -/
theorem here_of {m : TMach} {k : Nat} (h : MayP m) (hk : k < m.sess.length) : hereM m k = true := by
  simp only [hereM, Bool.and_eq_true, decide_eq_true_eq]
  exact ⟨⟨(mayP m).2 h, by omega⟩, by omega⟩
theorem here_cases (m : TMach) (at_ : Int) : hereM m at_ = false ∨ ∃ k s, at_ = (k : Nat) ∧ m.sess[k]? = some s ∧ MayP m ∧ SP m.words s := by
  cases h : hereM m at_ with
  | false => exact .inl rfl
  | true =>
    obtain ⟨s, k, rfl, hs, hk⟩ := here_get h
    have hm := here_may h
    exact .inr ⟨k, s, rfl, hs, (mayP m).1 hm, (sp _ _).1 (may_sess hm hs)⟩
/-- what begins anew, where it does -/
def anew (m : TMach) (k : Nat) (s : TSess) (kind : Int) : TMach := tellM (setS (freeM (s.id + 1) m) k (againS s)) ⟨s.id, s.label, kind, minT s.tries⟩
def ended (m : TMach) (k : Nat) (s : TSess) (r t : Int) : TMach := tellM (setS (freeM (s.id + 1) m) k (endS s r t)) ⟨s.id, s.label, 6, r⟩
theorem id_wrap {i : Int} (h : inR i 254 = true) : IntKind.wrap .i64 (i + 1) = i + 1 := by
  rw [inR_le] at h; exact wrap_small (by omega) (by omega)
theorem again_at {m : TMach} {k : Nat} {s : TSess} (hs : m.sess[k]? = some s) (hm : MayP m) {kind : Int} (hk : kind = 3 ∨ kind = 5) : againM m k kind = (anew m k s kind, 0) := by
  have h := (sp _ _).1 (hm.sess s (List.mem_of_getElem? hs))
  have h1 : (hereM m k && (decide (kind = 3) || decide (kind = 5))) = true := by
    rw [here_of hm (get_lt hs)]; rcases hk with rfl | rfl <;> rfl
  simp only [againM, h1, if_true, Int.toNat_natCast, hs, anew, id_wrap h.id]
theorem end_at {m : TMach} {k : Nat} {s : TSess} (hs : m.sess[k]? = some s) (hm : MayP m) {r t : Int} (hr : inR r 5 = true) (ht : inR t 255 = true) : endM m k r t = (ended m k s r t, 0) := by
  have h := (sp _ _).1 (hm.sess s (List.mem_of_getElem? hs))
  have h1 : (hereM m k && inR r 5 && inR t 255) = true := by
    rw [here_of hm (get_lt hs), hr, ht]; rfl
  simp only [endM, h1, if_true, Int.toNat_natCast, hs, ended, id_wrap h.id]
theorem again_no {m : TMach} {at_ kind : Int} (h : hereM m at_ = false) : againM m at_ kind = (zeroM, 1300) := by simp [againM, h]
theorem end_no {m : TMach} {at_ r t : Int} (h : hereM m at_ = false) : endM m at_ r t = (zeroM, 1300) := by simp [endM, h]
theorem tell_sess (m : TMach) (e : TEvent) : (tellM m e).sess = m.sess := by unfold tellM; split <;> rfl
theorem tell_words (m : TMach) (e : TEvent) : (tellM m e).words = m.words := by unfold tellM; split <;> rfl
theorem tell_clocks (m : TMach) (e : TEvent) : (tellM m e).clocks = m.clocks := by unfold tellM; split <;> rfl
theorem tell_ceil (m : TMach) (e : TEvent) : (tellM m e).ceil = m.ceil := by unfold tellM; split <;> rfl
theorem tell_trace (m : TMach) (e : TEvent) : (tellM m e).trace = if m.trace.length < 512 then m.trace ++ [e] else m.trace := by unfold tellM; split <;> rfl
theorem set_sess (m : TMach) (k : Nat) (s : TSess) : (setS m k s).sess = m.sess.set k s := rfl
theorem set_get {m : TMach} {k : Nat} {s s' : TSess} (hs : m.sess[k]? = some s) : (setS m k s').sess[k]? = some s' := by
  simp only [setS]; exact List.getElem?_set_self (get_lt hs)
theorem anew_may {m : TMach} {k : Nat} {s : TSess} (hs : m.sess[k]? = some s) (hm : MayP m) (kind : Int) : MayP (anew m k s kind) := by
  have h := (sp _ _).1 (hm.sess s (List.mem_of_getElem? hs))
  exact mayP_tell (mayP_set (mayP_free hm _) (s := s) (s' := againS s) hs rfl (sp_free _ |>.2 (sp_again h))) h.label
theorem ended_may {m : TMach} {k : Nat} {s : TSess} (hs : m.sess[k]? = some s) (hm : MayP m) {r t : Int} (hr : inR r 5 = true) (ht : inR t 255 = true) : MayP (ended m k s r t) := by
  have h := (sp _ _).1 (hm.sess s (List.mem_of_getElem? hs))
  exact mayP_tell (mayP_set (mayP_free hm _) (s := s) (s' := endS s r t) hs rfl (sp_free _ |>.2 (sp_end h hr ht))) h.label
theorem anew_sess {m : TMach} {k : Nat} {s : TSess} (kind : Int) : (anew m k s kind).sess = m.sess.set k (againS s) := by rw [anew, tell_sess]; rfl
theorem ended_sess {m : TMach} {k : Nat} {s : TSess} (r t : Int) : (ended m k s r t).sess = m.sess.set k (endS s r t) := by rw [ended, tell_sess]; rfl
theorem freeW_twice (c : Int) (w : TWord) : freeW c (freeW c w) = freeW c w := by
  unfold freeW
  by_cases h : w.lock = c
  · simp only [h, if_true]
    split <;> rfl
  · simp only [h, if_false]
theorem free_twice (c : Int) (m : TMach) : (freeM c (freeM c m)).words = (freeM c m).words := by
  have : ∀ l : List TWord, (l.map (freeW c)).map (freeW c) = l.map (freeW c) := fun l => by simp [freeW_twice]
  simp only [freeM, this]
theorem anew_words {m : TMach} {k : Nat} {s : TSess} (kind : Int) : (anew m k s kind).words = (freeM (s.id + 1) m).words := by rw [anew, tell_words]; rfl
theorem anew_clocks {m : TMach} {k : Nat} {s : TSess} (kind : Int) : (anew m k s kind).clocks = m.clocks := by rw [anew, tell_clocks]; rfl
theorem anew_ceil {m : TMach} {k : Nat} {s : TSess} (kind : Int) : (anew m k s kind).ceil = m.ceil := by rw [anew, tell_ceil]; rfl
theorem ended_words {m : TMach} {k : Nat} {s : TSess} (r t : Int) : (ended m k s r t).words = (freeM (s.id + 1) m).words := by rw [ended, tell_words]; rfl
theorem ended_clocks {m : TMach} {k : Nat} {s : TSess} (r t : Int) : (ended m k s r t).clocks = m.clocks := by rw [ended, tell_clocks]; rfl
theorem ended_ceil {m : TMach} {k : Nat} {s : TSess} (r t : Int) : (ended m k s r t).ceil = m.ceil := by rw [ended, tell_ceil]; rfl
theorem mask255 (a : Int) : inR (andI a 255) 255 = true := by
  have h : (BitVec.ofInt 64 a &&& BitVec.ofInt 64 255).toNat ≤ 255 := by
    have : (BitVec.ofInt 64 a &&& BitVec.ofInt 64 255).toNat = (BitVec.ofInt 64 a).toNat &&& 255 := by
      rw [BitVec.toNat_and]; rfl
    rw [this]; exact Nat.and_le_right
  unfold andI
  rw [wrap_small (by omega) (by omega), inR_le]
  omega
theorem mach_ext {a b : TMach} (h1 : a.words = b.words) (h2 : a.clocks = b.clocks) (h3 : a.ceil = b.ceil) (h4 : a.sess = b.sess) (h5 : a.trace = b.trace) : a = b := by
  cases a; cases b; simp_all
theorem twice {m : TMach} {k : Nat} {s : TSess} (hs : m.sess[k]? = some s) (kind : Int) : ({ anew (anew m k s kind) k (againS s) kind with sess := ((anew (anew m k s kind) k (againS s) kind).sess).set k { againS (againS s) with tries := (againS s).tries }, trace := (anew m k s kind).trace } : TMach) = anew m k s kind := by
  have hid : (againS s).id = s.id := rfl
  have e1 : (anew (anew m k s kind) k (againS s) kind).words = (anew m k s kind).words := by
    rw [anew_words, hid]
    show (freeM (s.id + 1) (anew m k s kind)).words = _
    have : (freeM (s.id + 1) (anew m k s kind)).words = (freeM (s.id + 1) (freeM (s.id + 1) m)).words := by
      simp only [freeM, anew_words]
    rw [this, free_twice, anew_words]
  have e2 : ((anew (anew m k s kind) k (againS s) kind).sess).set k { againS (againS s) with tries := (againS s).tries } = (anew m k s kind).sess := by
    rw [anew_sess, anew_sess]
    simp only [List.set_set]
    rfl
  refine mach_ext e1 ?_ ?_ e2 rfl
  · show (anew (anew m k s kind) k (againS s) kind).clocks = _
    rw [anew_clocks]
  · show (anew (anew m k s kind) k (againS s) kind).ceil = _
    rw [anew_ceil]
end Ve
