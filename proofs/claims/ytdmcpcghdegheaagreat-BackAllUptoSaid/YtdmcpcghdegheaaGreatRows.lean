/-
  No cell of these rows narrows 'for every input' (looked for: loops, veiled, ifaces, maps, wideKeys, modest, calm, conditions, laid).
  DERIVED. THE GIVEN ROWS OF THIS SEAT. 11 by the template 'for every input the law returns true; each argument reads behind the call as it read before'; 0 by the template 'total and deterministic' (their statements: YtdmcpcghdegheaaGreatTotals.lean).
  GIVEN WITH THE SEED: the statements are not yours to turn. If you find one false, say at which input.
  Laid BY PROGRAM, IN A SANDBOX (cutbox-rows.mjs): the forced cells as the released guide's own fill.sh prints them over the translation 91fcfe0809073677… (all of the seat's roots in one cut). By AI agents, Wed Nov 11 2026. No macro, syntax, notation, axiom, sorry.
-/
import Derived.Test.YtdmcpcghdegheaaGreatChecked
import GoSem.Claim
import GoSem.ClaimJoined
import GoSem.ClaimMapViews
import Derived.JoinedTies
import Derived.KernelRfl
namespace Go.Proofs.YtdmcpcghdegheaaGreat
/- THE CELL 'sum', in the pinned program and in every row, IS THE sha256 OF THE DUMP (.gsa) THAT YtdmcpcghdegheaaGreatProg.lean LOADS. Nothing in Lean hashes anything: it is a label: what it is worth is what the hold of that sum in a sandbox is worth. -/
noncomputable def Tryz.pinned : Pinned := { name := "ytdmcpcghdegheaagreat", sum := "91fcfe08090736770ae38c19029d95ce7560cb601a318a7221e5ced4624ba93f", checked := Tryz.checked }
namespace Rows
def none {H : Type} : Left H := { results := [], args := [] }

/-- 'veillaw13.Undos': WHATEVER THE INPUT: true; the input reads as it did. -/
def undosSpec : ChangeSpec := { name := "undos", fn := fun _ => fun
  | [d1, d2, d3, d4, d5] => { results := [.lit (.bool true)], args := [d1, d2, d3, d4, d5] }
  | _ => none }
def undosRow : OpenClaim := { program := "ytdmcpcghdegheaagreat", sum := "91fcfe08090736770ae38c19029d95ce7560cb601a318a7221e5ced4624ba93f", func := "veil/veillaw13.Undos", spec := "undos", unfollowed := true, recurses := true, apart := false }
def UndosSaid : Prop := undosRow.holds Tryz.pinned (OpenSpec.ofChange undosSpec)

/-- ITS FALSE NEIGHBOUR: 'it returns false'. Refute it at one input. -/
def undosWrong : ChangeSpec := { name := "undos", fn := fun _ => fun
  | [d1, d2, d3, d4, d5] => { results := [.lit (.bool false)], args := [d1, d2, d3, d4, d5] }
  | _ => none }
def UndosWrongFalsely : Prop := undosRow.holds Tryz.pinned (OpenSpec.ofChange undosWrong)

/-- 'veillaw13.UndoTurns': WHATEVER THE INPUT: true; the input reads as it did. -/
def undoTurnsSpec : ChangeSpec := { name := "undoTurns", fn := fun _ => fun
  | [d1, d2, d3] => { results := [.lit (.bool true)], args := [d1, d2, d3] }
  | _ => none }
def undoTurnsRow : OpenClaim := { program := "ytdmcpcghdegheaagreat", sum := "91fcfe08090736770ae38c19029d95ce7560cb601a318a7221e5ced4624ba93f", func := "veil/veillaw13.UndoTurns", spec := "undoTurns", unfollowed := true, recurses := true, apart := false }
def UndoTurnsSaid : Prop := undoTurnsRow.holds Tryz.pinned (OpenSpec.ofChange undoTurnsSpec)

/-- ITS FALSE NEIGHBOUR: 'it returns false'. Refute it at one input. -/
def undoTurnsWrong : ChangeSpec := { name := "undoTurns", fn := fun _ => fun
  | [d1, d2, d3] => { results := [.lit (.bool false)], args := [d1, d2, d3] }
  | _ => none }
def UndoTurnsWrongFalsely : Prop := undoTurnsRow.holds Tryz.pinned (OpenSpec.ofChange undoTurnsWrong)

/-- 'veillaw13.UndoForms': WHATEVER THE INPUT: true; the input reads as it did. -/
def undoFormsSpec : ChangeSpec := { name := "undoForms", fn := fun _ => fun
  | [d1, d2] => { results := [.lit (.bool true)], args := [d1, d2] }
  | _ => none }
def undoFormsRow : OpenClaim := { program := "ytdmcpcghdegheaagreat", sum := "91fcfe08090736770ae38c19029d95ce7560cb601a318a7221e5ced4624ba93f", func := "veil/veillaw13.UndoForms", spec := "undoForms", unfollowed := true, recurses := true, apart := false }
def UndoFormsSaid : Prop := undoFormsRow.holds Tryz.pinned (OpenSpec.ofChange undoFormsSpec)

/-- ITS FALSE NEIGHBOUR: 'it returns false'. Refute it at one input. -/
def undoFormsWrong : ChangeSpec := { name := "undoForms", fn := fun _ => fun
  | [d1, d2] => { results := [.lit (.bool false)], args := [d1, d2] }
  | _ => none }
def UndoFormsWrongFalsely : Prop := undoFormsRow.holds Tryz.pinned (OpenSpec.ofChange undoFormsWrong)

/-- 'veillaw13.UndoAgain': WHATEVER THE INPUT: true; the input reads as it did. -/
def undoAgainSpec : ChangeSpec := { name := "undoAgain", fn := fun _ => fun
  | [d1, d2] => { results := [.lit (.bool true)], args := [d1, d2] }
  | _ => none }
def undoAgainRow : OpenClaim := { program := "ytdmcpcghdegheaagreat", sum := "91fcfe08090736770ae38c19029d95ce7560cb601a318a7221e5ced4624ba93f", func := "veil/veillaw13.UndoAgain", spec := "undoAgain", unfollowed := true, recurses := true, apart := false }
def UndoAgainSaid : Prop := undoAgainRow.holds Tryz.pinned (OpenSpec.ofChange undoAgainSpec)

/-- ITS FALSE NEIGHBOUR: 'it returns false'. Refute it at one input. -/
def undoAgainWrong : ChangeSpec := { name := "undoAgain", fn := fun _ => fun
  | [d1, d2] => { results := [.lit (.bool false)], args := [d1, d2] }
  | _ => none }
def UndoAgainWrongFalsely : Prop := undoAgainRow.holds Tryz.pinned (OpenSpec.ofChange undoAgainWrong)

/-- 'veillaw13.UndoEnds': WHATEVER THE INPUT: true; the input reads as it did. -/
def undoEndsSpec : ChangeSpec := { name := "undoEnds", fn := fun _ => fun
  | [d1, d2, d3, d4] => { results := [.lit (.bool true)], args := [d1, d2, d3, d4] }
  | _ => none }
def undoEndsRow : OpenClaim := { program := "ytdmcpcghdegheaagreat", sum := "91fcfe08090736770ae38c19029d95ce7560cb601a318a7221e5ced4624ba93f", func := "veil/veillaw13.UndoEnds", spec := "undoEnds", unfollowed := true, recurses := true, apart := false }
def UndoEndsSaid : Prop := undoEndsRow.holds Tryz.pinned (OpenSpec.ofChange undoEndsSpec)

/-- ITS FALSE NEIGHBOUR: 'it returns false'. Refute it at one input. -/
def undoEndsWrong : ChangeSpec := { name := "undoEnds", fn := fun _ => fun
  | [d1, d2, d3, d4] => { results := [.lit (.bool false)], args := [d1, d2, d3, d4] }
  | _ => none }
def UndoEndsWrongFalsely : Prop := undoEndsRow.holds Tryz.pinned (OpenSpec.ofChange undoEndsWrong)

/-- 'veillaw13.UndoTwice': WHATEVER THE INPUT: true; the input reads as it did. -/
def undoTwiceSpec : ChangeSpec := { name := "undoTwice", fn := fun _ => fun
  | [d1, d2, d3, d4] => { results := [.lit (.bool true)], args := [d1, d2, d3, d4] }
  | _ => none }
def undoTwiceRow : OpenClaim := { program := "ytdmcpcghdegheaagreat", sum := "91fcfe08090736770ae38c19029d95ce7560cb601a318a7221e5ced4624ba93f", func := "veil/veillaw13.UndoTwice", spec := "undoTwice", unfollowed := true, recurses := true, apart := false }
def UndoTwiceSaid : Prop := undoTwiceRow.holds Tryz.pinned (OpenSpec.ofChange undoTwiceSpec)

/-- ITS FALSE NEIGHBOUR: 'it returns false'. Refute it at one input. -/
def undoTwiceWrong : ChangeSpec := { name := "undoTwice", fn := fun _ => fun
  | [d1, d2, d3, d4] => { results := [.lit (.bool false)], args := [d1, d2, d3, d4] }
  | _ => none }
def UndoTwiceWrongFalsely : Prop := undoTwiceRow.holds Tryz.pinned (OpenSpec.ofChange undoTwiceWrong)

/-- 'veillaw21.Backs': WHATEVER THE INPUT: true; the input reads as it did. -/
def backsSpec : ChangeSpec := { name := "backs", fn := fun _ => fun
  | [d1, d2] => { results := [.lit (.bool true)], args := [d1, d2] }
  | _ => none }
def backsRow : OpenClaim := { program := "ytdmcpcghdegheaagreat", sum := "91fcfe08090736770ae38c19029d95ce7560cb601a318a7221e5ced4624ba93f", func := "veil/veillaw21.Backs", spec := "backs", unfollowed := true, recurses := true, apart := false }
def BacksSaid : Prop := backsRow.holds Tryz.pinned (OpenSpec.ofChange backsSpec)

/-- ITS FALSE NEIGHBOUR: 'it returns false'. Refute it at one input. -/
def backsWrong : ChangeSpec := { name := "backs", fn := fun _ => fun
  | [d1, d2] => { results := [.lit (.bool false)], args := [d1, d2] }
  | _ => none }
def BacksWrongFalsely : Prop := backsRow.holds Tryz.pinned (OpenSpec.ofChange backsWrong)

/-- 'veillaw21.BackForms': WHATEVER THE INPUT: true; the input reads as it did. -/
def backFormsSpec : ChangeSpec := { name := "backForms", fn := fun _ => fun
  | [d1, d2] => { results := [.lit (.bool true)], args := [d1, d2] }
  | _ => none }
def backFormsRow : OpenClaim := { program := "ytdmcpcghdegheaagreat", sum := "91fcfe08090736770ae38c19029d95ce7560cb601a318a7221e5ced4624ba93f", func := "veil/veillaw21.BackForms", spec := "backForms", unfollowed := true, recurses := true, apart := false }
def BackFormsSaid : Prop := backFormsRow.holds Tryz.pinned (OpenSpec.ofChange backFormsSpec)

/-- ITS FALSE NEIGHBOUR: 'it returns false'. Refute it at one input. -/
def backFormsWrong : ChangeSpec := { name := "backForms", fn := fun _ => fun
  | [d1, d2] => { results := [.lit (.bool false)], args := [d1, d2] }
  | _ => none }
def BackFormsWrongFalsely : Prop := backFormsRow.holds Tryz.pinned (OpenSpec.ofChange backFormsWrong)

/-- 'veillaw21.BackOne': WHATEVER THE INPUT: true; the input reads as it did. -/
def backOneSpec : ChangeSpec := { name := "backOne", fn := fun _ => fun
  | [d1, d2] => { results := [.lit (.bool true)], args := [d1, d2] }
  | _ => none }
def backOneRow : OpenClaim := { program := "ytdmcpcghdegheaagreat", sum := "91fcfe08090736770ae38c19029d95ce7560cb601a318a7221e5ced4624ba93f", func := "veil/veillaw21.BackOne", spec := "backOne", unfollowed := true, recurses := true, apart := false }
def BackOneSaid : Prop := backOneRow.holds Tryz.pinned (OpenSpec.ofChange backOneSpec)

/-- ITS FALSE NEIGHBOUR: 'it returns false'. Refute it at one input. -/
def backOneWrong : ChangeSpec := { name := "backOne", fn := fun _ => fun
  | [d1, d2] => { results := [.lit (.bool false)], args := [d1, d2] }
  | _ => none }
def BackOneWrongFalsely : Prop := backOneRow.holds Tryz.pinned (OpenSpec.ofChange backOneWrong)

/-- 'veillaw21.BackAll': WHATEVER THE INPUT: true; the input reads as it did. -/
def backAllSpec : ChangeSpec := { name := "backAll", fn := fun _ => fun
  | [d1, d2, d3] => { results := [.lit (.bool true)], args := [d1, d2, d3] }
  | _ => none }
def backAllRow : OpenClaim := { program := "ytdmcpcghdegheaagreat", sum := "91fcfe08090736770ae38c19029d95ce7560cb601a318a7221e5ced4624ba93f", func := "veil/veillaw21.BackAll", spec := "backAll", unfollowed := true, recurses := true, apart := false }
def BackAllSaid : Prop := backAllRow.holds Tryz.pinned (OpenSpec.ofChange backAllSpec)

/-- ITS FALSE NEIGHBOUR: 'it returns false'. Refute it at one input. -/
def backAllWrong : ChangeSpec := { name := "backAll", fn := fun _ => fun
  | [d1, d2, d3] => { results := [.lit (.bool false)], args := [d1, d2, d3] }
  | _ => none }
def BackAllWrongFalsely : Prop := backAllRow.holds Tryz.pinned (OpenSpec.ofChange backAllWrong)

/-- 'veillaw21.BackHidden': WHATEVER THE INPUT: true; the input reads as it did. -/
def backHiddenSpec : ChangeSpec := { name := "backHidden", fn := fun _ => fun
  | [d] => { results := [.lit (.bool true)], args := [d] }
  | _ => none }
def backHiddenRow : OpenClaim := { program := "ytdmcpcghdegheaagreat", sum := "91fcfe08090736770ae38c19029d95ce7560cb601a318a7221e5ced4624ba93f", func := "veil/veillaw21.BackHidden", spec := "backHidden", unfollowed := true, recurses := true, apart := false }
def BackHiddenSaid : Prop := backHiddenRow.holds Tryz.pinned (OpenSpec.ofChange backHiddenSpec)

/-- ITS FALSE NEIGHBOUR: 'it returns false'. Refute it at one input. -/
def backHiddenWrong : ChangeSpec := { name := "backHidden", fn := fun _ => fun
  | [d] => { results := [.lit (.bool false)], args := [d] }
  | _ => none }
def BackHiddenWrongFalsely : Prop := backHiddenRow.holds Tryz.pinned (OpenSpec.ofChange backHiddenWrong)

/- THE SECOND FORM. 'bulk': how many values and letters a reading holds, each counted each time it is reached (what is shared counts as often as it is met; a slice's spare places count too). A statement '..UptoSaid' is the law's where the arguments, and the package variables that the reading takes, are together of bulk at most 1048576: NARROWER than '..Said'. Prove '..Said' where nothing that the law and all that it calls make is longer than what came in: it says more and counts as full. Else prove '..UptoSaid'. A law counts once. -/
mutual
def uptoBulk {H : Type} : DataW H → Nat
  | .lit (.string bytes) => bytes.length + 1
  | .lit _ => 1
  | .nil => 1
  | .ptr d => uptoBulk d + 1
  | .slice elems spare => uptoBulkAll elems + uptoBulkAll spare + 1
  | .agg parts => uptoBulkAll parts + 1
  | .iface _ d => uptoBulk d + 1
  | .map entries => uptoBulkEntries entries + 1
  | .held _ => 1
def uptoBulkAll {H : Type} : List (DataW H) → Nat
  | [] => 0
  | d :: r => uptoBulk d + uptoBulkAll r
def uptoBulkEntries {H : Type} : List (Lit × DataW H) → Nat
  | [] => 0
  | x :: r => uptoBulkEntry x + uptoBulkEntries r
def uptoBulkEntry {H : Type} : Lit × DataW H → Nat
  | (.string bytes, d) => bytes.length + uptoBulk d + 1
  | (_, d) => uptoBulk d + 1
 end
def uptoSmall : (H : Type) → List (DataW H) → Bool := fun _ ds => decide (uptoBulkAll ds ≤ 1048576)
def OpenSpec.upto (s : _root_.Go.ChangeSpec) : _root_.Go.OpenSpec := { _root_.Go.OpenSpec.ofChange s with cond := some uptoSmall }

/-- 'veillaw13.Undos', WHERE WHAT IT READS IS OF BULK AT MOST 1048576: true; the input reads as it did. -/
def undosUptoRow : OpenClaim := { program := "ytdmcpcghdegheaagreat", sum := "91fcfe08090736770ae38c19029d95ce7560cb601a318a7221e5ced4624ba93f", func := "veil/veillaw13.Undos", spec := "undos", unfollowed := true, recurses := true, apart := false, narrowed := true }
def UndosUptoSaid : Prop := undosUptoRow.holds Tryz.pinned (OpenSpec.upto undosSpec)

/-- 'veillaw13.UndoTurns', WHERE WHAT IT READS IS OF BULK AT MOST 1048576: true; the input reads as it did. -/
def undoTurnsUptoRow : OpenClaim := { program := "ytdmcpcghdegheaagreat", sum := "91fcfe08090736770ae38c19029d95ce7560cb601a318a7221e5ced4624ba93f", func := "veil/veillaw13.UndoTurns", spec := "undoTurns", unfollowed := true, recurses := true, apart := false, narrowed := true }
def UndoTurnsUptoSaid : Prop := undoTurnsUptoRow.holds Tryz.pinned (OpenSpec.upto undoTurnsSpec)

/-- 'veillaw13.UndoForms', WHERE WHAT IT READS IS OF BULK AT MOST 1048576: true; the input reads as it did. -/
def undoFormsUptoRow : OpenClaim := { program := "ytdmcpcghdegheaagreat", sum := "91fcfe08090736770ae38c19029d95ce7560cb601a318a7221e5ced4624ba93f", func := "veil/veillaw13.UndoForms", spec := "undoForms", unfollowed := true, recurses := true, apart := false, narrowed := true }
def UndoFormsUptoSaid : Prop := undoFormsUptoRow.holds Tryz.pinned (OpenSpec.upto undoFormsSpec)

/-- 'veillaw13.UndoAgain', WHERE WHAT IT READS IS OF BULK AT MOST 1048576: true; the input reads as it did. -/
def undoAgainUptoRow : OpenClaim := { program := "ytdmcpcghdegheaagreat", sum := "91fcfe08090736770ae38c19029d95ce7560cb601a318a7221e5ced4624ba93f", func := "veil/veillaw13.UndoAgain", spec := "undoAgain", unfollowed := true, recurses := true, apart := false, narrowed := true }
def UndoAgainUptoSaid : Prop := undoAgainUptoRow.holds Tryz.pinned (OpenSpec.upto undoAgainSpec)

/-- 'veillaw13.UndoEnds', WHERE WHAT IT READS IS OF BULK AT MOST 1048576: true; the input reads as it did. -/
def undoEndsUptoRow : OpenClaim := { program := "ytdmcpcghdegheaagreat", sum := "91fcfe08090736770ae38c19029d95ce7560cb601a318a7221e5ced4624ba93f", func := "veil/veillaw13.UndoEnds", spec := "undoEnds", unfollowed := true, recurses := true, apart := false, narrowed := true }
def UndoEndsUptoSaid : Prop := undoEndsUptoRow.holds Tryz.pinned (OpenSpec.upto undoEndsSpec)

/-- 'veillaw13.UndoTwice', WHERE WHAT IT READS IS OF BULK AT MOST 1048576: true; the input reads as it did. -/
def undoTwiceUptoRow : OpenClaim := { program := "ytdmcpcghdegheaagreat", sum := "91fcfe08090736770ae38c19029d95ce7560cb601a318a7221e5ced4624ba93f", func := "veil/veillaw13.UndoTwice", spec := "undoTwice", unfollowed := true, recurses := true, apart := false, narrowed := true }
def UndoTwiceUptoSaid : Prop := undoTwiceUptoRow.holds Tryz.pinned (OpenSpec.upto undoTwiceSpec)

/-- 'veillaw21.Backs', WHERE WHAT IT READS IS OF BULK AT MOST 1048576: true; the input reads as it did. -/
def backsUptoRow : OpenClaim := { program := "ytdmcpcghdegheaagreat", sum := "91fcfe08090736770ae38c19029d95ce7560cb601a318a7221e5ced4624ba93f", func := "veil/veillaw21.Backs", spec := "backs", unfollowed := true, recurses := true, apart := false, narrowed := true }
def BacksUptoSaid : Prop := backsUptoRow.holds Tryz.pinned (OpenSpec.upto backsSpec)

/-- 'veillaw21.BackForms', WHERE WHAT IT READS IS OF BULK AT MOST 1048576: true; the input reads as it did. -/
def backFormsUptoRow : OpenClaim := { program := "ytdmcpcghdegheaagreat", sum := "91fcfe08090736770ae38c19029d95ce7560cb601a318a7221e5ced4624ba93f", func := "veil/veillaw21.BackForms", spec := "backForms", unfollowed := true, recurses := true, apart := false, narrowed := true }
def BackFormsUptoSaid : Prop := backFormsUptoRow.holds Tryz.pinned (OpenSpec.upto backFormsSpec)

/-- 'veillaw21.BackOne', WHERE WHAT IT READS IS OF BULK AT MOST 1048576: true; the input reads as it did. -/
def backOneUptoRow : OpenClaim := { program := "ytdmcpcghdegheaagreat", sum := "91fcfe08090736770ae38c19029d95ce7560cb601a318a7221e5ced4624ba93f", func := "veil/veillaw21.BackOne", spec := "backOne", unfollowed := true, recurses := true, apart := false, narrowed := true }
def BackOneUptoSaid : Prop := backOneUptoRow.holds Tryz.pinned (OpenSpec.upto backOneSpec)

/-- 'veillaw21.BackAll', WHERE WHAT IT READS IS OF BULK AT MOST 1048576: true; the input reads as it did. -/
def backAllUptoRow : OpenClaim := { program := "ytdmcpcghdegheaagreat", sum := "91fcfe08090736770ae38c19029d95ce7560cb601a318a7221e5ced4624ba93f", func := "veil/veillaw21.BackAll", spec := "backAll", unfollowed := true, recurses := true, apart := false, narrowed := true }
def BackAllUptoSaid : Prop := backAllUptoRow.holds Tryz.pinned (OpenSpec.upto backAllSpec)

/-- 'veillaw21.BackHidden', WHERE WHAT IT READS IS OF BULK AT MOST 1048576: true; the input reads as it did. -/
def backHiddenUptoRow : OpenClaim := { program := "ytdmcpcghdegheaagreat", sum := "91fcfe08090736770ae38c19029d95ce7560cb601a318a7221e5ced4624ba93f", func := "veil/veillaw21.BackHidden", spec := "backHidden", unfollowed := true, recurses := true, apart := false, narrowed := true }
def BackHiddenUptoSaid : Prop := backHiddenUptoRow.holds Tryz.pinned (OpenSpec.upto backHiddenSpec)

end Rows
end Go.Proofs.YtdmcpcghdegheaaGreat
