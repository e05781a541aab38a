/- Models of scripts, and how the evaluator's values stand for them; new machines. -/
import Derived.Test.YtcipiajnabgkgaaGreatVeM
set_option linter.all false
set_option linter.unusedSectionVars false
namespace Ve
open Go
def eSt (p : Bool) (s : TStart) : V := .agg [iV s.id, iV s.label, iV s.clear, eIs p s.prog]
abbrev eSts (p : Bool) (l : List TStart) : V := .isl p false 4 (l.map (eSt p))
abbrev eNs (p : Bool) (l : List Int) : V := .isl p false 1 (l.map iV)
abbrev eSls (p : Bool) (l : List TSlot) : V := .isl p false 2 (l.map eSl)
abbrev cSc (p : Bool) (s : TScript) : List V := [eNs p s.words.a0, eNs p s.words.a1, eNs p s.words.a2, eNs p s.words.a3, iV s.ceil, eSts p s.starts, eSls p s.slots]
abbrev eSc (p : Bool) (s : TScript) : V := .agg (cSc p s)
structure SmSc (s : TScript) : Prop where
  b0 : s.words.a0.length ≤ 1048576
  b1 : s.words.a1.length ≤ 1048576
  b2 : s.words.a2.length ≤ 1048576
  b3 : s.words.a3.length ≤ 1048576
  bst : s.starts.length ≤ 1048576
  bsl : s.slots.length ≤ 1048576
  p : ∀ x ∈ s.starts, x.prog.length ≤ 1048576
def newW (v : Int) : TWord := ⟨v, 0, 0⟩
def rowNew (l : List Int) : Bool := decide (l.length ≤ 4) && l.all (fun v => inR v 255)
def valsMay (ws : A4 (List Int)) : Bool := ws.all rowNew
def newWs (ws : A4 (List Int)) : A4 (List TWord) := ⟨ws.a0.map newW, ws.a1.map newW, ws.a2.map newW, ws.a3.map newW⟩
def newA (ws : A4 (List Int)) : A4 (List TWord) × Int := if valsMay ws = true then (newWs ws, 0) else (⟨[], [], [], []⟩, 400)
def sess0 (s : TStart) : TSess := ⟨s.id, s.label, s.clear, s.prog, 0, 0, ⟨0, 0, 0, 0⟩, [], [], 0, 0, 0, 0, 0⟩
def startOk (s : TStart) : Bool := startMay s.id s.label s.clear s.prog
def newS (s : TStart) : TSess × Int := if startOk s = true then (sess0 s, 0) else (sess0 ⟨0, 0, 0, []⟩, 1100)
def mach0 (s : TScript) : TMach := ⟨newWs s.words, ⟨0, 0, 0, 0⟩, s.ceil, s.starts.map sess0, []⟩
def newM (s : TScript) : TMach × Int := if (valsMay s.words && s.starts.all startOk && mayM (mach0 s)) = true then (mach0 s, 0) else (zeroM, 1200)
theorem sm_mach0 {s : TScript} (h : SmSc s) : SmM (mach0 s) := by
  obtain ⟨b0, b1, b2, b3, bst, bsl, p⟩ := h
  refine ⟨by simp [mach0, newWs]; omega, by simp [mach0, newWs]; omega, by simp [mach0, newWs]; omega, by simp [mach0, newWs]; omega, by simp [mach0]; omega, by simp [mach0], ?_⟩
  intro x hx
  simp only [mach0, List.mem_map] at hx
  obtain ⟨y, hy, rfl⟩ := hx
  have := p y hy
  exact ⟨by simp only [sess0]; omega, by simp [sess0], by simp [sess0]⟩
end Ve
