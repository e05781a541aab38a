/- The machines of ParkWaits, ParkKeeps, ParkAlone. -/
import Derived.Test.YtapgmjgledahiaaGreatPL42
set_option linter.all false
set_option linter.unusedSectionVars false
namespace Ve
open Go
set_option maxRecDepth 100000
def MPw (ws : A4 (List TWord)) : TMach := { MPk 9 5 1 with words := ws }
theorem mpw_sm (ws : A4 (List TWord)) (h0 : ws.a0.length ≤ 4) (h1 : ws.a1.length ≤ 4) (h2 : ws.a2.length ≤ 4) (h3 : ws.a3.length ≤ 4) : SmM (MPw ws) := by
  have h := mpk_sm 9 5 1
  exact ⟨by simp only [MPw]; omega, by simp only [MPw]; omega, by simp only [MPw]; omega, by simp only [MPw]; omega, h.bs, h.bt, h.s⟩
abbrev PW0 (v k : Int) : A4 (List TWord) := ⟨[⟨5, v, k⟩, ⟨6, 0, 0⟩], [⟨7, 0, 0⟩], [], [⟨9, 0, 0⟩]⟩
abbrev PW1 (v k : Int) : A4 (List TWord) := ⟨[⟨5, 0, 0⟩, ⟨6, v, k⟩], [⟨7, 0, 0⟩], [], [⟨9, 0, 0⟩]⟩
abbrev PW2 (v k : Int) : A4 (List TWord) := ⟨[⟨5, 0, 0⟩, ⟨6, 0, 0⟩], [⟨7, v, k⟩], [], [⟨9, 0, 0⟩]⟩
abbrev PW3 (v k : Int) : A4 (List TWord) := ⟨[⟨5, 0, 0⟩, ⟨6, 0, 0⟩], [⟨7, 0, 0⟩], [], [⟨9, v, k⟩]⟩
theorem pw0 : ∀ v : _root_.Fin 4, ∀ k : _root_.Fin 8, parkM (MPw (PW0 ((v.val : Nat) : Int) ((k.val : Nat) : Int))) 0 = (MPw (PW0 ((v.val : Nat) : Int) ((k.val : Nat) : Int)), 0) := by decide +kernel
theorem pw1 : ∀ k : _root_.Fin 8, parkM (MPw (PW1 0 ((k.val : Nat) : Int))) 0 = (MPw (PW1 0 ((k.val : Nat) : Int)), 0) := by decide +kernel
theorem pw2 : ∀ v : _root_.Fin 4, ∀ k : _root_.Fin 8, parkM (MPw (PW2 ((v.val : Nat) : Int) ((k.val : Nat) : Int))) 0 = (MPw (PW2 ((v.val : Nat) : Int) ((k.val : Nat) : Int)), 0) := by decide +kernel
theorem pw3 : ∀ v : _root_.Fin 4, ∀ k : _root_.Fin 8, parkM (MPw (PW3 ((v.val : Nat) : Int) ((k.val : Nat) : Int))) 0 = (MPw (PW3 ((v.val : Nat) : Int) ((k.val : Nat) : Int)), 0) := by decide +kernel
def S30 : TSess := ⟨3, 0, 3, [⟨2, 0, 0, 1⟩, ⟨5, 0, 0, 0⟩], 0, 0, ⟨0, 0, 0, 0⟩, [], [], 0, 0, 1, 0, 0⟩
def S50 : TSess := ⟨5, 1, 1, [⟨2, 0, 0, 1⟩, ⟨3, 0, 1, 0⟩], 0, 0, ⟨0, 0, 0, 0⟩, [], [], 0, 0, 0, 0, 0⟩
theorem pw1w : ∀ v : _root_.Fin 3, ∀ k : _root_.Fin 8, (parkM (MPw (PW1 (((v.val : Nat) : Int) + 1) ((k.val : Nat) : Int))) 0).2 = 0 ∧ (parkM (MPw (PW1 (((v.val : Nat) : Int) + 1) ((k.val : Nat) : Int))) 0).1.sess = [S30, S50] := by decide +kernel
/-- ParkKeeps -/
abbrev KP (v : Int) : List TInst := [⟨2, 0, 0, 1⟩, ⟨0, 1, v, 0⟩, ⟨3, 1, 0, 0⟩, ⟨5, 0, 0, 0⟩]
def KM (v : Int) (step pc : Int) (rg : A4 Int) (rs : List TRead) (ws : List TWrite) (tr : List TEvent) : TMach := ⟨⟨[⟨5, 0, 0⟩, ⟨6, 0, 0⟩], [⟨7, 0, 0⟩], [], [⟨9, 0, 0⟩]⟩, ⟨0, 0, 0, 0⟩, 9, [⟨3, 0, 3, KP v, step, pc, rg, rs, ws, 0, 0, 0, 0, 0⟩, S50], tr⟩
theorem km_sm (v step pc : Int) (rg : A4 Int) (rs : List TRead) (ws : List TWrite) (tr : List TEvent) (h1 : rs.length ≤ 16) (h2 : ws.length ≤ 16) (h3 : tr.length ≤ 512) : SmM (KM v step pc rg rs ws tr) := by
  refine ⟨by simp [KM], by simp [KM], by simp [KM], by simp [KM], by simp [KM], by simp only [KM]; omega, ?_⟩
  intro s hs
  simp only [KM, List.mem_cons, List.mem_nil_iff, or_false] at hs
  rcases hs with rfl | rfl
  · exact ⟨by simp, by simp only; omega, by simp only; omega⟩
  · exact ⟨by simp [S50], by simp [S50], by simp [S50]⟩
def KM0 (v : Int) : TMach := KM v 0 0 ⟨0, 0, 0, 0⟩ [] [] []
def KM1 (v : Int) : TMach := KM v 0 1 ⟨6, 0, 0, 0⟩ [⟨0, 1, 0⟩] [] [⟨3, 0, 0, 6⟩]
def KM2 (v : Int) : TMach := KM v 0 2 ⟨6, v, 0, 0⟩ [⟨0, 1, 0⟩] [] [⟨3, 0, 0, 6⟩]
def KM3 (v : Int) : TMach := KM v 0 3 ⟨6, v, 0, 0⟩ [⟨0, 1, 0⟩] [⟨0, 0, v⟩] [⟨3, 0, 0, 6⟩, ⟨3, 0, 1, v⟩]
def KM4 (v : Int) : TMach := KM v 5 3 ⟨6, v, 0, 0⟩ [⟨0, 1, 0⟩] [] [⟨3, 0, 0, 6⟩, ⟨3, 0, 1, v⟩, ⟨3, 0, 4, 1⟩]
theorem km0 : ∀ v : _root_.Fin 256, stepM (KM0 ((v.val : Nat) : Int)) 0 = (KM1 ((v.val : Nat) : Int), 0) := by decide +kernel
theorem km1 : ∀ v : _root_.Fin 256, stepM (KM1 ((v.val : Nat) : Int)) 0 = (KM2 ((v.val : Nat) : Int), 0) := by decide +kernel
theorem km2 : ∀ v : _root_.Fin 256, stepM (KM2 ((v.val : Nat) : Int)) 0 = (KM3 ((v.val : Nat) : Int), 0) := by decide +kernel
theorem km3 : ∀ v : _root_.Fin 256, parkM (KM3 ((v.val : Nat) : Int)) 0 = (KM4 ((v.val : Nat) : Int), 0) := by decide +kernel
theorem km4 : ∀ v : _root_.Fin 256, parkM (KM4 ((v.val : Nat) : Int)) 0 = (KM4 ((v.val : Nat) : Int), 0) := by decide +kernel
/-- ParkAlone -/
def XM (step : Int) (ws : List TWord) (tr : List TEvent) : TMach := ⟨⟨ws, [⟨7, 0, 0⟩], [], [⟨9, 0, 0⟩]⟩, ⟨0, 0, 0, 0⟩, 9, [⟨3, 0, 3, [⟨5, 0, 0, 0⟩], step, 0, ⟨0, 0, 0, 0⟩, [], [], 0, 0, 0, 0, 0⟩, S50], tr⟩
theorem xm_sm (step : Int) (ws : List TWord) (tr : List TEvent) (h1 : ws.length ≤ 4) (h3 : tr.length ≤ 512) : SmM (XM step ws tr) := by
  refine ⟨by simp only [XM]; omega, by simp [XM], by simp [XM], by simp [XM], by simp [XM], by simp only [XM]; omega, ?_⟩
  intro s hs
  simp only [XM, List.mem_cons, List.mem_nil_iff, or_false] at hs
  rcases hs with rfl | rfl
  · exact ⟨by simp, by simp, by simp⟩
  · exact ⟨by simp [S50], by simp [S50], by simp [S50]⟩
def XM0 : TMach := XM 0 [⟨5, 0, 0⟩, ⟨6, 0, 0⟩] []
def XM1 : TMach := XM 5 [⟨5, 0, 0⟩, ⟨6, 0, 0⟩] [⟨3, 0, 4, 0⟩]
theorem xm0 : parkM XM0 0 = (XM1, 0) := by decide +kernel
theorem xm1 : stepM XM1 0 = (XM1, 0) := by decide +kernel
theorem xmA : ∀ v : _root_.Fin 256, parkM (XM 5 [⟨5, ((v.val : Nat) : Int), 0⟩, ⟨6, 0, 0⟩] [⟨3, 0, 4, 0⟩]) 0 = (XM 5 [⟨5, ((v.val : Nat) : Int), 0⟩, ⟨6, 0, 0⟩] [⟨3, 0, 4, 0⟩], 0) := by decide +kernel
theorem xmB : ∀ v : _root_.Fin 256, parkM (XM 5 [⟨5, 0, 0⟩, ⟨6, ((v.val : Nat) : Int), 0⟩] [⟨3, 0, 4, 0⟩]) 0 = (XM 5 [⟨5, 0, 0⟩, ⟨6, ((v.val : Nat) : Int), 0⟩] [⟨3, 0, 4, 0⟩], 0) := by decide +kernel
/-- FetchOwn -/
def OM (v lk pc : Int) (r : Int) (tr : List TEvent) : TMach := ⟨⟨[⟨5, 0, lk⟩, ⟨6, 0, 0⟩], [⟨7, 0, 0⟩], [], [⟨9, 0, 0⟩]⟩, ⟨0, 0, 0, 0⟩, 9, [⟨3, 0, 3, [⟨2, 0, 0, 0⟩, ⟨1, 0, 0, 0⟩, ⟨3, 0, 0, 0⟩], 0, pc, ⟨r, 0, 0, 0⟩, [], [⟨0, 0, v⟩], 0, 0, 0, 0, 0⟩, S50], tr⟩
theorem om_sm (v lk pc r : Int) (tr : List TEvent) (h3 : tr.length ≤ 512) : SmM (OM v lk pc r tr) := by
  refine ⟨by simp [OM], by simp [OM], by simp [OM], by simp [OM], by simp [OM], by simp only [OM]; omega, ?_⟩
  intro s hs
  simp only [OM, List.mem_cons, List.mem_nil_iff, or_false] at hs
  rcases hs with rfl | rfl
  · exact ⟨by simp, by simp, by simp⟩
  · exact ⟨by simp [S50], by simp [S50], by simp [S50]⟩
theorem om0 : ∀ v : _root_.Fin 256, fetchM (OM ((v.val : Nat) : Int) 0 0 0 []) 0 = (OM ((v.val : Nat) : Int) 0 1 ((v.val : Nat) : Int) [⟨3, 0, 0, ((v.val : Nat) : Int)⟩], 0) := by decide +kernel
theorem om6 : ∀ v : _root_.Fin 256, fetchM (OM ((v.val : Nat) : Int) 6 0 0 []) 0 = (OM ((v.val : Nat) : Int) 6 1 ((v.val : Nat) : Int) [⟨3, 0, 0, ((v.val : Nat) : Int)⟩], 0) := by decide +kernel
/-- FetchStale -/
abbrev SQ : List TInst := [⟨2, 0, 0, 0⟩, ⟨1, 0, 0, 0⟩, ⟨3, 0, 0, 0⟩]
abbrev SWs (lk : Int) : A4 (List TWord) := ⟨[⟨5, 0, 0⟩, ⟨6, 2, lk⟩], [⟨7, 0, 0⟩], [], [⟨9, 0, 0⟩]⟩
def SZ (v lk : Int) : TMach := ⟨SWs lk, ⟨0, 0, 0, 0⟩, 9, [⟨3, 0, 3, SQ, 0, 0, ⟨0, 0, 0, 0⟩, [⟨0, 1, v⟩], [], 0, 0, 0, 0, 0⟩, S50], []⟩
theorem sz_sm (v lk : Int) : SmM (SZ v lk) := by
  refine ⟨by simp [SZ], by simp [SZ], by simp [SZ], by simp [SZ], by simp [SZ], by simp [SZ], ?_⟩
  intro s hs
  simp only [SZ, List.mem_cons, List.mem_nil_iff, or_false] at hs
  rcases hs with rfl | rfl
  · exact ⟨by simp, by simp, by simp⟩
  · exact ⟨by simp [S50], by simp [S50], by simp [S50]⟩
def SG : TSess := ⟨3, 0, 3, SQ, 0, 1, ⟨5, 0, 0, 0⟩, [⟨0, 1, 2⟩, ⟨0, 0, 0⟩], [], 0, 0, 0, 0, 0⟩
def SB : TSess := ⟨3, 0, 3, SQ, 0, 0, ⟨0, 0, 0, 0⟩, [], [], 0, 0, 1, 0, 0⟩
end Ve
