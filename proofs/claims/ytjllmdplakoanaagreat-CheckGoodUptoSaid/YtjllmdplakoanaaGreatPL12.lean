/- Laws of the models: labels that rise; what a check leaves. -/
import Derived.Test.YtjllmdplakoanaaGreatPL6
import Derived.Test.YtjllmdplakoanaaGreatPL2
set_option linter.all false
set_option linter.unusedSectionVars false
namespace Ve
open Go
theorem lab4 {a : Int} (h : inR a 3 = true) : a = 0 ∨ a = 1 ∨ a = 2 ∨ a = 3 := by rw [inR_le] at h; omega
theorem or_lab {a b : Int} (ha : inR a 3 = true) (hb : inR b 3 = true) : inR (orI a b) 3 = true ∧ orI (orI a b) a = orI a b ∧ under b (orI a b) = true ∧ (under b a = false → decide (orI a b = a) = false) := by
  rcases lab4 ha with rfl | rfl | rfl | rfl <;> rcases lab4 hb with rfl | rfl | rfl | rfl <;> decide
/-- a label that rose -/
def upM (m : TMach) (k : Nat) (s : TSess) (l : Int) : TMach := setS (tellM m ⟨s.id, s.label, 2, l⟩) k { s with label := l }
theorem up_may {m : TMach} {k : Nat} {s : TSess} {l : Int} (hs : m.sess[k]? = some s) (hM : MayP m) (hS : SP m.words s) (hl : inR l 3 = true) (hc : under l s.clear = true) : MayP (upM m k s l) := by
  refine mayP_set (mayP_tell hM hS.label) (s := s) (by rw [tell_sess]; exact hs) rfl ?_
  rw [tell_words]
  exact { hS with label := hl, under := hc }
theorem up_sess {m : TMach} {k : Nat} {s : TSess} {l : Int} : (upM m k s l).sess = m.sess.set k { s with label := l } := by unfold upM setS; rw [tell_sess]
theorem up_words {m : TMach} {k : Nat} {s : TSess} {l : Int} : (upM m k s l).words = m.words := by unfold upM setS; rw [tell_words]
theorem up_clocks {m : TMach} {k : Nat} {s : TSess} {l : Int} : (upM m k s l).clocks = m.clocks := by unfold upM setS; rw [tell_clocks]
theorem sm_up {m : TMach} (hm : SmM m) {k : Nat} {s : TSess} {l : Int} (hs : m.sess[k]? = some s) : SmM (upM m k s l) := by
  have h := hm.s s (List.mem_of_getElem? hs)
  exact sm_set (sm_tell hm _) _ _ ⟨h.bp, h.br, h.bw⟩
theorem good_may {m : TMach} {s : TSess} (hM : MayP m) (hS : SP m.words s) : goodM m.words s.reads s.id = (s.reads.all (goodR m.words s.id), 0) := by
  unfold goodM; rw [hM.arena, hS.reads, hS.rthere, hS.id]; rfl
theorem changed_may {m : TMach} {s : TSess} (hM : MayP m) (hS : SP m.words s) : changedM m.words s.reads = (s.reads.any (chgR m.words), 0) := by
  unfold changedM; rw [hM.arena, hS.reads, hS.rthere]; rfl
end Ve
