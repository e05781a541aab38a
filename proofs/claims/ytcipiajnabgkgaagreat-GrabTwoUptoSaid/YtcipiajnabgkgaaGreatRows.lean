/-
  No cell of these rows narrows 'for every input' (looked for: loops, veiled, ifaces, maps, wideKeys, modest, calm, conditions, laid).
  DERIVED. THE GIVEN ROWS OF THIS SEAT. 10 by the template 'for every input the law returns true; each argument reads behind the call as it read before'; 0 by the template 'total and deterministic' (their statements: YtcipiajnabgkgaaGreatTotals.lean).
  GIVEN WITH THE SEED: the statements are not yours to turn. If you find one false, say at which input.
  Laid BY PROGRAM, IN A SANDBOX (cutbox-rows.mjs): the forced cells as the released guide's own fill.sh prints them over the translation 2b96cd61bbd511e3… (all of the seat's roots in one cut). By AI agents, Wed Nov 11 2026. No macro, syntax, notation, axiom, sorry.
-/
import Derived.Test.YtcipiajnabgkgaaGreatChecked
import GoSem.Claim
import GoSem.ClaimJoined
import GoSem.ClaimMapViews
import Derived.JoinedTies
import Derived.KernelRfl
namespace Go.Proofs.YtcipiajnabgkgaaGreat
/- THE CELL 'sum', in the pinned program and in every row, IS THE sha256 OF THE DUMP (.gsa) THAT YtcipiajnabgkgaaGreatProg.lean LOADS. Nothing in Lean hashes anything: it is a label: what it is worth is what the hold of that sum in a sandbox is worth. -/
noncomputable def Tryz.pinned : Pinned := { name := "ytcipiajnabgkgaagreat", sum := "2b96cd61bbd511e3b5ca8d251e457938922668d99280ab985077ef3dcdd9e79a", checked := Tryz.checked }
namespace Rows
def none {H : Type} : Left H := { results := [], args := [] }

/-- 'veillaw21.BackHidden': WHATEVER THE INPUT: true; the input reads as it did. -/
def backHiddenSpec : ChangeSpec := { name := "backHidden", fn := fun _ => fun
  | [d] => { results := [.lit (.bool true)], args := [d] }
  | _ => none }
def backHiddenRow : OpenClaim := { program := "ytcipiajnabgkgaagreat", sum := "2b96cd61bbd511e3b5ca8d251e457938922668d99280ab985077ef3dcdd9e79a", func := "veil/veillaw21.BackHidden", spec := "backHidden", unfollowed := true, recurses := true, apart := false }
def BackHiddenSaid : Prop := backHiddenRow.holds Tryz.pinned (OpenSpec.ofChange backHiddenSpec)

/-- ITS FALSE NEIGHBOUR: 'it returns false'. Refute it at one input. -/
def backHiddenWrong : ChangeSpec := { name := "backHidden", fn := fun _ => fun
  | [d] => { results := [.lit (.bool false)], args := [d] }
  | _ => none }
def BackHiddenWrongFalsely : Prop := backHiddenRow.holds Tryz.pinned (OpenSpec.ofChange backHiddenWrong)

/-- 'veillaw19.Stamps': WHATEVER THE INPUT: true; the input reads as it did. -/
def stampsSpec : ChangeSpec := { name := "stamps", fn := fun _ => fun
  | [d1, d2] => { results := [.lit (.bool true)], args := [d1, d2] }
  | _ => none }
def stampsRow : OpenClaim := { program := "ytcipiajnabgkgaagreat", sum := "2b96cd61bbd511e3b5ca8d251e457938922668d99280ab985077ef3dcdd9e79a", func := "veil/veillaw19.Stamps", spec := "stamps", unfollowed := true, recurses := true, apart := false }
def StampsSaid : Prop := stampsRow.holds Tryz.pinned (OpenSpec.ofChange stampsSpec)

/-- ITS FALSE NEIGHBOUR: 'it returns false'. Refute it at one input. -/
def stampsWrong : ChangeSpec := { name := "stamps", fn := fun _ => fun
  | [d1, d2] => { results := [.lit (.bool false)], args := [d1, d2] }
  | _ => none }
def StampsWrongFalsely : Prop := stampsRow.holds Tryz.pinned (OpenSpec.ofChange stampsWrong)

/-- 'veillaw19.StampForms': WHATEVER THE INPUT: true; the input reads as it did. -/
def stampFormsSpec : ChangeSpec := { name := "stampForms", fn := fun _ => fun
  | [d1, d2] => { results := [.lit (.bool true)], args := [d1, d2] }
  | _ => none }
def stampFormsRow : OpenClaim := { program := "ytcipiajnabgkgaagreat", sum := "2b96cd61bbd511e3b5ca8d251e457938922668d99280ab985077ef3dcdd9e79a", func := "veil/veillaw19.StampForms", spec := "stampForms", unfollowed := true, recurses := true, apart := false }
def StampFormsSaid : Prop := stampFormsRow.holds Tryz.pinned (OpenSpec.ofChange stampFormsSpec)

/-- ITS FALSE NEIGHBOUR: 'it returns false'. Refute it at one input. -/
def stampFormsWrong : ChangeSpec := { name := "stampForms", fn := fun _ => fun
  | [d1, d2] => { results := [.lit (.bool false)], args := [d1, d2] }
  | _ => none }
def StampFormsWrongFalsely : Prop := stampFormsRow.holds Tryz.pinned (OpenSpec.ofChange stampFormsWrong)

/-- 'veillaw19.StampOwn': WHATEVER THE INPUT: true; the input reads as it did. -/
def stampOwnSpec : ChangeSpec := { name := "stampOwn", fn := fun _ => fun
  | [d1, d2] => { results := [.lit (.bool true)], args := [d1, d2] }
  | _ => none }
def stampOwnRow : OpenClaim := { program := "ytcipiajnabgkgaagreat", sum := "2b96cd61bbd511e3b5ca8d251e457938922668d99280ab985077ef3dcdd9e79a", func := "veil/veillaw19.StampOwn", spec := "stampOwn", unfollowed := true, recurses := true, apart := false }
def StampOwnSaid : Prop := stampOwnRow.holds Tryz.pinned (OpenSpec.ofChange stampOwnSpec)

/-- ITS FALSE NEIGHBOUR: 'it returns false'. Refute it at one input. -/
def stampOwnWrong : ChangeSpec := { name := "stampOwn", fn := fun _ => fun
  | [d1, d2] => { results := [.lit (.bool false)], args := [d1, d2] }
  | _ => none }
def StampOwnWrongFalsely : Prop := stampOwnRow.holds Tryz.pinned (OpenSpec.ofChange stampOwnWrong)

/-- 'veillaw19.StampTwo': WHATEVER THE INPUT: true; the input reads as it did. -/
def stampTwoSpec : ChangeSpec := { name := "stampTwo", fn := fun _ => fun
  | [d] => { results := [.lit (.bool true)], args := [d] }
  | _ => none }
def stampTwoRow : OpenClaim := { program := "ytcipiajnabgkgaagreat", sum := "2b96cd61bbd511e3b5ca8d251e457938922668d99280ab985077ef3dcdd9e79a", func := "veil/veillaw19.StampTwo", spec := "stampTwo", unfollowed := true, recurses := true, apart := false }
def StampTwoSaid : Prop := stampTwoRow.holds Tryz.pinned (OpenSpec.ofChange stampTwoSpec)

/-- ITS FALSE NEIGHBOUR: 'it returns false'. Refute it at one input. -/
def stampTwoWrong : ChangeSpec := { name := "stampTwo", fn := fun _ => fun
  | [d] => { results := [.lit (.bool false)], args := [d] }
  | _ => none }
def StampTwoWrongFalsely : Prop := stampTwoRow.holds Tryz.pinned (OpenSpec.ofChange stampTwoWrong)

/-- 'veillaw18.Grabs': WHATEVER THE INPUT: true; the input reads as it did. -/
def grabsSpec : ChangeSpec := { name := "grabs", fn := fun _ => fun
  | [d1, d2] => { results := [.lit (.bool true)], args := [d1, d2] }
  | _ => none }
def grabsRow : OpenClaim := { program := "ytcipiajnabgkgaagreat", sum := "2b96cd61bbd511e3b5ca8d251e457938922668d99280ab985077ef3dcdd9e79a", func := "veil/veillaw18.Grabs", spec := "grabs", unfollowed := true, recurses := true, apart := false }
def GrabsSaid : Prop := grabsRow.holds Tryz.pinned (OpenSpec.ofChange grabsSpec)

/-- ITS FALSE NEIGHBOUR: 'it returns false'. Refute it at one input. -/
def grabsWrong : ChangeSpec := { name := "grabs", fn := fun _ => fun
  | [d1, d2] => { results := [.lit (.bool false)], args := [d1, d2] }
  | _ => none }
def GrabsWrongFalsely : Prop := grabsRow.holds Tryz.pinned (OpenSpec.ofChange grabsWrong)

/-- 'veillaw18.GrabForms': WHATEVER THE INPUT: true; the input reads as it did. -/
def grabFormsSpec : ChangeSpec := { name := "grabForms", fn := fun _ => fun
  | [d1, d2] => { results := [.lit (.bool true)], args := [d1, d2] }
  | _ => none }
def grabFormsRow : OpenClaim := { program := "ytcipiajnabgkgaagreat", sum := "2b96cd61bbd511e3b5ca8d251e457938922668d99280ab985077ef3dcdd9e79a", func := "veil/veillaw18.GrabForms", spec := "grabForms", unfollowed := true, recurses := true, apart := false }
def GrabFormsSaid : Prop := grabFormsRow.holds Tryz.pinned (OpenSpec.ofChange grabFormsSpec)

/-- ITS FALSE NEIGHBOUR: 'it returns false'. Refute it at one input. -/
def grabFormsWrong : ChangeSpec := { name := "grabForms", fn := fun _ => fun
  | [d1, d2] => { results := [.lit (.bool false)], args := [d1, d2] }
  | _ => none }
def GrabFormsWrongFalsely : Prop := grabFormsRow.holds Tryz.pinned (OpenSpec.ofChange grabFormsWrong)

/-- 'veillaw18.GrabRow': WHATEVER THE INPUT: true; the input reads as it did. -/
def grabRowSpec : ChangeSpec := { name := "grabRow", fn := fun _ => fun
  | [d1, d2] => { results := [.lit (.bool true)], args := [d1, d2] }
  | _ => none }
def grabRowRow : OpenClaim := { program := "ytcipiajnabgkgaagreat", sum := "2b96cd61bbd511e3b5ca8d251e457938922668d99280ab985077ef3dcdd9e79a", func := "veil/veillaw18.GrabRow", spec := "grabRow", unfollowed := true, recurses := true, apart := false }
def GrabRowSaid : Prop := grabRowRow.holds Tryz.pinned (OpenSpec.ofChange grabRowSpec)

/-- ITS FALSE NEIGHBOUR: 'it returns false'. Refute it at one input. -/
def grabRowWrong : ChangeSpec := { name := "grabRow", fn := fun _ => fun
  | [d1, d2] => { results := [.lit (.bool false)], args := [d1, d2] }
  | _ => none }
def GrabRowWrongFalsely : Prop := grabRowRow.holds Tryz.pinned (OpenSpec.ofChange grabRowWrong)

/-- 'veillaw18.GrabOnly': WHATEVER THE INPUT: true; the input reads as it did. -/
def grabOnlySpec : ChangeSpec := { name := "grabOnly", fn := fun _ => fun
  | [d1, d2] => { results := [.lit (.bool true)], args := [d1, d2] }
  | _ => none }
def grabOnlyRow : OpenClaim := { program := "ytcipiajnabgkgaagreat", sum := "2b96cd61bbd511e3b5ca8d251e457938922668d99280ab985077ef3dcdd9e79a", func := "veil/veillaw18.GrabOnly", spec := "grabOnly", unfollowed := true, recurses := true, apart := false }
def GrabOnlySaid : Prop := grabOnlyRow.holds Tryz.pinned (OpenSpec.ofChange grabOnlySpec)

/-- ITS FALSE NEIGHBOUR: 'it returns false'. Refute it at one input. -/
def grabOnlyWrong : ChangeSpec := { name := "grabOnly", fn := fun _ => fun
  | [d1, d2] => { results := [.lit (.bool false)], args := [d1, d2] }
  | _ => none }
def GrabOnlyWrongFalsely : Prop := grabOnlyRow.holds Tryz.pinned (OpenSpec.ofChange grabOnlyWrong)

/-- 'veillaw18.GrabTwo': WHATEVER THE INPUT: true; the input reads as it did. -/
def grabTwoSpec : ChangeSpec := { name := "grabTwo", fn := fun _ => fun
  | [d1, d2] => { results := [.lit (.bool true)], args := [d1, d2] }
  | _ => none }
def grabTwoRow : OpenClaim := { program := "ytcipiajnabgkgaagreat", sum := "2b96cd61bbd511e3b5ca8d251e457938922668d99280ab985077ef3dcdd9e79a", func := "veil/veillaw18.GrabTwo", spec := "grabTwo", unfollowed := true, recurses := true, apart := false }
def GrabTwoSaid : Prop := grabTwoRow.holds Tryz.pinned (OpenSpec.ofChange grabTwoSpec)

/-- ITS FALSE NEIGHBOUR: 'it returns false'. Refute it at one input. -/
def grabTwoWrong : ChangeSpec := { name := "grabTwo", fn := fun _ => fun
  | [d1, d2] => { results := [.lit (.bool false)], args := [d1, d2] }
  | _ => none }
def GrabTwoWrongFalsely : Prop := grabTwoRow.holds Tryz.pinned (OpenSpec.ofChange grabTwoWrong)

/- THE SECOND FORM. 'bulk': how many values and letters a reading holds, each counted each time it is reached (what is shared counts as often as it is met; a slice's spare places count too). A statement '..UptoSaid' is the law's where the arguments, and the package variables that the reading takes, are together of bulk at most 1048576: NARROWER than '..Said'. Prove '..Said' where nothing that the law and all that it calls make is longer than what came in: it says more and counts as full. Else prove '..UptoSaid'. A law counts once. -/
mutual
def uptoBulk {H : Type} : DataW H → Nat
  | .lit (.string bytes) => bytes.length + 1
  | .lit _ => 1
  | .nil => 1
  | .ptr d => uptoBulk d + 1
  | .slice elems spare => uptoBulkAll elems + uptoBulkAll spare + 1
  | .agg parts => uptoBulkAll parts + 1
  | .iface _ d => uptoBulk d + 1
  | .map entries => uptoBulkEntries entries + 1
  | .held _ => 1
def uptoBulkAll {H : Type} : List (DataW H) → Nat
  | [] => 0
  | d :: r => uptoBulk d + uptoBulkAll r
def uptoBulkEntries {H : Type} : List (Lit × DataW H) → Nat
  | [] => 0
  | x :: r => uptoBulkEntry x + uptoBulkEntries r
def uptoBulkEntry {H : Type} : Lit × DataW H → Nat
  | (.string bytes, d) => bytes.length + uptoBulk d + 1
  | (_, d) => uptoBulk d + 1
 end
def uptoSmall : (H : Type) → List (DataW H) → Bool := fun _ ds => decide (uptoBulkAll ds ≤ 1048576)
def OpenSpec.upto (s : _root_.Go.ChangeSpec) : _root_.Go.OpenSpec := { _root_.Go.OpenSpec.ofChange s with cond := some uptoSmall }

/-- 'veillaw21.BackHidden', WHERE WHAT IT READS IS OF BULK AT MOST 1048576: true; the input reads as it did. -/
def backHiddenUptoRow : OpenClaim := { program := "ytcipiajnabgkgaagreat", sum := "2b96cd61bbd511e3b5ca8d251e457938922668d99280ab985077ef3dcdd9e79a", func := "veil/veillaw21.BackHidden", spec := "backHidden", unfollowed := true, recurses := true, apart := false, narrowed := true }
def BackHiddenUptoSaid : Prop := backHiddenUptoRow.holds Tryz.pinned (OpenSpec.upto backHiddenSpec)

/-- 'veillaw19.Stamps', WHERE WHAT IT READS IS OF BULK AT MOST 1048576: true; the input reads as it did. -/
def stampsUptoRow : OpenClaim := { program := "ytcipiajnabgkgaagreat", sum := "2b96cd61bbd511e3b5ca8d251e457938922668d99280ab985077ef3dcdd9e79a", func := "veil/veillaw19.Stamps", spec := "stamps", unfollowed := true, recurses := true, apart := false, narrowed := true }
def StampsUptoSaid : Prop := stampsUptoRow.holds Tryz.pinned (OpenSpec.upto stampsSpec)

/-- 'veillaw19.StampForms', WHERE WHAT IT READS IS OF BULK AT MOST 1048576: true; the input reads as it did. -/
def stampFormsUptoRow : OpenClaim := { program := "ytcipiajnabgkgaagreat", sum := "2b96cd61bbd511e3b5ca8d251e457938922668d99280ab985077ef3dcdd9e79a", func := "veil/veillaw19.StampForms", spec := "stampForms", unfollowed := true, recurses := true, apart := false, narrowed := true }
def StampFormsUptoSaid : Prop := stampFormsUptoRow.holds Tryz.pinned (OpenSpec.upto stampFormsSpec)

/-- 'veillaw19.StampOwn', WHERE WHAT IT READS IS OF BULK AT MOST 1048576: true; the input reads as it did. -/
def stampOwnUptoRow : OpenClaim := { program := "ytcipiajnabgkgaagreat", sum := "2b96cd61bbd511e3b5ca8d251e457938922668d99280ab985077ef3dcdd9e79a", func := "veil/veillaw19.StampOwn", spec := "stampOwn", unfollowed := true, recurses := true, apart := false, narrowed := true }
def StampOwnUptoSaid : Prop := stampOwnUptoRow.holds Tryz.pinned (OpenSpec.upto stampOwnSpec)

/-- 'veillaw19.StampTwo', WHERE WHAT IT READS IS OF BULK AT MOST 1048576: true; the input reads as it did. -/
def stampTwoUptoRow : OpenClaim := { program := "ytcipiajnabgkgaagreat", sum := "2b96cd61bbd511e3b5ca8d251e457938922668d99280ab985077ef3dcdd9e79a", func := "veil/veillaw19.StampTwo", spec := "stampTwo", unfollowed := true, recurses := true, apart := false, narrowed := true }
def StampTwoUptoSaid : Prop := stampTwoUptoRow.holds Tryz.pinned (OpenSpec.upto stampTwoSpec)

/-- 'veillaw18.Grabs', WHERE WHAT IT READS IS OF BULK AT MOST 1048576: true; the input reads as it did. -/
def grabsUptoRow : OpenClaim := { program := "ytcipiajnabgkgaagreat", sum := "2b96cd61bbd511e3b5ca8d251e457938922668d99280ab985077ef3dcdd9e79a", func := "veil/veillaw18.Grabs", spec := "grabs", unfollowed := true, recurses := true, apart := false, narrowed := true }
def GrabsUptoSaid : Prop := grabsUptoRow.holds Tryz.pinned (OpenSpec.upto grabsSpec)

/-- 'veillaw18.GrabForms', WHERE WHAT IT READS IS OF BULK AT MOST 1048576: true; the input reads as it did. -/
def grabFormsUptoRow : OpenClaim := { program := "ytcipiajnabgkgaagreat", sum := "2b96cd61bbd511e3b5ca8d251e457938922668d99280ab985077ef3dcdd9e79a", func := "veil/veillaw18.GrabForms", spec := "grabForms", unfollowed := true, recurses := true, apart := false, narrowed := true }
def GrabFormsUptoSaid : Prop := grabFormsUptoRow.holds Tryz.pinned (OpenSpec.upto grabFormsSpec)

/-- 'veillaw18.GrabRow', WHERE WHAT IT READS IS OF BULK AT MOST 1048576: true; the input reads as it did. -/
def grabRowUptoRow : OpenClaim := { program := "ytcipiajnabgkgaagreat", sum := "2b96cd61bbd511e3b5ca8d251e457938922668d99280ab985077ef3dcdd9e79a", func := "veil/veillaw18.GrabRow", spec := "grabRow", unfollowed := true, recurses := true, apart := false, narrowed := true }
def GrabRowUptoSaid : Prop := grabRowUptoRow.holds Tryz.pinned (OpenSpec.upto grabRowSpec)

/-- 'veillaw18.GrabOnly', WHERE WHAT IT READS IS OF BULK AT MOST 1048576: true; the input reads as it did. -/
def grabOnlyUptoRow : OpenClaim := { program := "ytcipiajnabgkgaagreat", sum := "2b96cd61bbd511e3b5ca8d251e457938922668d99280ab985077ef3dcdd9e79a", func := "veil/veillaw18.GrabOnly", spec := "grabOnly", unfollowed := true, recurses := true, apart := false, narrowed := true }
def GrabOnlyUptoSaid : Prop := grabOnlyUptoRow.holds Tryz.pinned (OpenSpec.upto grabOnlySpec)

/-- 'veillaw18.GrabTwo', WHERE WHAT IT READS IS OF BULK AT MOST 1048576: true; the input reads as it did. -/
def grabTwoUptoRow : OpenClaim := { program := "ytcipiajnabgkgaagreat", sum := "2b96cd61bbd511e3b5ca8d251e457938922668d99280ab985077ef3dcdd9e79a", func := "veil/veillaw18.GrabTwo", spec := "grabTwo", unfollowed := true, recurses := true, apart := false, narrowed := true }
def GrabTwoUptoSaid : Prop := grabTwoUptoRow.holds Tryz.pinned (OpenSpec.upto grabTwoSpec)

end Rows
end Go.Proofs.YtcipiajnabgkgaaGreat
