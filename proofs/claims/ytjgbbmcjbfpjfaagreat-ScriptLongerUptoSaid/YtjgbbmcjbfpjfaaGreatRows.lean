/-
  No cell of these rows narrows 'for every input' (looked for: loops, veiled, ifaces, maps, wideKeys, modest, calm, conditions, laid).
  DERIVED. THE GIVEN ROWS OF THIS SEAT. 7 by the template 'for every input the law returns true; each argument reads behind the call as it read before'; 0 by the template 'total and deterministic' (their statements: YtjgbbmcjbfpjfaaGreatTotals.lean).
  GIVEN WITH THE SEED: the statements are not yours to turn. If you find one false, say at which input.
  Laid BY PROGRAM, IN A SANDBOX (cutbox-rows.mjs): the forced cells as the released guide's own fill.sh prints them over the translation 0051b4d97ae8fe8b… (all of the seat's roots in one cut). By AI agents, Wed Nov 11 2026. No macro, syntax, notation, axiom, sorry.
-/
import Derived.Test.YtjgbbmcjbfpjfaaGreatChecked
import GoSem.Claim
import GoSem.ClaimJoined
import GoSem.ClaimMapViews
import Derived.JoinedTies
import Derived.KernelRfl
namespace Go.Proofs.YtjgbbmcjbfpjfaaGreat
/- THE CELL 'sum', in the pinned program and in every row, IS THE sha256 OF THE DUMP (.gsa) THAT YtjgbbmcjbfpjfaaGreatProg.lean LOADS. Nothing in Lean hashes anything: it is a label: what it is worth is what the hold of that sum in a sandbox is worth. -/
noncomputable def Tryz.pinned : Pinned := { name := "ytjgbbmcjbfpjfaagreat", sum := "0051b4d97ae8fe8b27e9debaaeec89288768197d44781ae3a61f084efb6d539c", checked := Tryz.checked }
namespace Rows
def none {H : Type} : Left H := { results := [], args := [] }

/-- 'veillaw25.Scripts': WHATEVER THE INPUT: true; the input reads as it did. -/
def scriptsSpec : ChangeSpec := { name := "scripts", fn := fun _ => fun
  | [d1, d2, d3] => { results := [.lit (.bool true)], args := [d1, d2, d3] }
  | _ => none }
def scriptsRow : OpenClaim := { program := "ytjgbbmcjbfpjfaagreat", sum := "0051b4d97ae8fe8b27e9debaaeec89288768197d44781ae3a61f084efb6d539c", func := "veil/veillaw25.Scripts", spec := "scripts", inPlace := ["slices.overlaps[veil/api.Write]"], unfollowed := true, recurses := true, apart := false }
def ScriptsSaid : Prop := scriptsRow.holds Tryz.pinned (OpenSpec.ofChange scriptsSpec)

/-- ITS FALSE NEIGHBOUR: 'it returns false'. Refute it at one input. -/
def scriptsWrong : ChangeSpec := { name := "scripts", fn := fun _ => fun
  | [d1, d2, d3] => { results := [.lit (.bool false)], args := [d1, d2, d3] }
  | _ => none }
def ScriptsWrongFalsely : Prop := scriptsRow.holds Tryz.pinned (OpenSpec.ofChange scriptsWrong)

/-- 'veillaw25.ScriptVeiled': WHATEVER THE INPUT: true; the input reads as it did. -/
def scriptVeiledSpec : ChangeSpec := { name := "scriptVeiled", fn := fun _ => fun
  | [d1, d2] => { results := [.lit (.bool true)], args := [d1, d2] }
  | _ => none }
def scriptVeiledRow : OpenClaim := { program := "ytjgbbmcjbfpjfaagreat", sum := "0051b4d97ae8fe8b27e9debaaeec89288768197d44781ae3a61f084efb6d539c", func := "veil/veillaw25.ScriptVeiled", spec := "scriptVeiled", inPlace := ["slices.overlaps[veil/api.Write]"], unfollowed := true, recurses := true, apart := false }
def ScriptVeiledSaid : Prop := scriptVeiledRow.holds Tryz.pinned (OpenSpec.ofChange scriptVeiledSpec)

/-- ITS FALSE NEIGHBOUR: 'it returns false'. Refute it at one input. -/
def scriptVeiledWrong : ChangeSpec := { name := "scriptVeiled", fn := fun _ => fun
  | [d1, d2] => { results := [.lit (.bool false)], args := [d1, d2] }
  | _ => none }
def ScriptVeiledWrongFalsely : Prop := scriptVeiledRow.holds Tryz.pinned (OpenSpec.ofChange scriptVeiledWrong)

/-- 'veillaw25.ScriptForms': WHATEVER THE INPUT: true; the input reads as it did. -/
def scriptFormsSpec : ChangeSpec := { name := "scriptForms", fn := fun _ => fun
  | [d1, d2] => { results := [.lit (.bool true)], args := [d1, d2] }
  | _ => none }
def scriptFormsRow : OpenClaim := { program := "ytjgbbmcjbfpjfaagreat", sum := "0051b4d97ae8fe8b27e9debaaeec89288768197d44781ae3a61f084efb6d539c", func := "veil/veillaw25.ScriptForms", spec := "scriptForms", inPlace := ["slices.overlaps[veil/api.Write]"], unfollowed := true, recurses := true, apart := false }
def ScriptFormsSaid : Prop := scriptFormsRow.holds Tryz.pinned (OpenSpec.ofChange scriptFormsSpec)

/-- ITS FALSE NEIGHBOUR: 'it returns false'. Refute it at one input. -/
def scriptFormsWrong : ChangeSpec := { name := "scriptForms", fn := fun _ => fun
  | [d1, d2] => { results := [.lit (.bool false)], args := [d1, d2] }
  | _ => none }
def ScriptFormsWrongFalsely : Prop := scriptFormsRow.holds Tryz.pinned (OpenSpec.ofChange scriptFormsWrong)

/-- 'veillaw25.ScriptBelow': WHATEVER THE INPUT: true; the input reads as it did. -/
def scriptBelowSpec : ChangeSpec := { name := "scriptBelow", fn := fun _ => fun
  | [d1, d2, d3] => { results := [.lit (.bool true)], args := [d1, d2, d3] }
  | _ => none }
def scriptBelowRow : OpenClaim := { program := "ytjgbbmcjbfpjfaagreat", sum := "0051b4d97ae8fe8b27e9debaaeec89288768197d44781ae3a61f084efb6d539c", func := "veil/veillaw25.ScriptBelow", spec := "scriptBelow", inPlace := ["slices.overlaps[veil/api.Write]"], unfollowed := true, recurses := true, apart := false }
def ScriptBelowSaid : Prop := scriptBelowRow.holds Tryz.pinned (OpenSpec.ofChange scriptBelowSpec)

/-- ITS FALSE NEIGHBOUR: 'it returns false'. Refute it at one input. -/
def scriptBelowWrong : ChangeSpec := { name := "scriptBelow", fn := fun _ => fun
  | [d1, d2, d3] => { results := [.lit (.bool false)], args := [d1, d2, d3] }
  | _ => none }
def ScriptBelowWrongFalsely : Prop := scriptBelowRow.holds Tryz.pinned (OpenSpec.ofChange scriptBelowWrong)

/-- 'veillaw25.ScriptSeen': WHATEVER THE INPUT: true; the input reads as it did. -/
def scriptSeenSpec : ChangeSpec := { name := "scriptSeen", fn := fun _ => fun
  | [d1, d2] => { results := [.lit (.bool true)], args := [d1, d2] }
  | _ => none }
def scriptSeenRow : OpenClaim := { program := "ytjgbbmcjbfpjfaagreat", sum := "0051b4d97ae8fe8b27e9debaaeec89288768197d44781ae3a61f084efb6d539c", func := "veil/veillaw25.ScriptSeen", spec := "scriptSeen", inPlace := ["slices.overlaps[veil/api.Write]"], unfollowed := true, recurses := true, apart := false }
def ScriptSeenSaid : Prop := scriptSeenRow.holds Tryz.pinned (OpenSpec.ofChange scriptSeenSpec)

/-- ITS FALSE NEIGHBOUR: 'it returns false'. Refute it at one input. -/
def scriptSeenWrong : ChangeSpec := { name := "scriptSeen", fn := fun _ => fun
  | [d1, d2] => { results := [.lit (.bool false)], args := [d1, d2] }
  | _ => none }
def ScriptSeenWrongFalsely : Prop := scriptSeenRow.holds Tryz.pinned (OpenSpec.ofChange scriptSeenWrong)

/-- 'veillaw25.ScriptOn': WHATEVER THE INPUT: true; the input reads as it did. -/
def scriptOnSpec : ChangeSpec := { name := "scriptOn", fn := fun _ => fun
  | [d1, d2] => { results := [.lit (.bool true)], args := [d1, d2] }
  | _ => none }
def scriptOnRow : OpenClaim := { program := "ytjgbbmcjbfpjfaagreat", sum := "0051b4d97ae8fe8b27e9debaaeec89288768197d44781ae3a61f084efb6d539c", func := "veil/veillaw25.ScriptOn", spec := "scriptOn", inPlace := ["slices.overlaps[veil/api.Write]"], unfollowed := true, recurses := true, apart := false }
def ScriptOnSaid : Prop := scriptOnRow.holds Tryz.pinned (OpenSpec.ofChange scriptOnSpec)

/-- ITS FALSE NEIGHBOUR: 'it returns false'. Refute it at one input. -/
def scriptOnWrong : ChangeSpec := { name := "scriptOn", fn := fun _ => fun
  | [d1, d2] => { results := [.lit (.bool false)], args := [d1, d2] }
  | _ => none }
def ScriptOnWrongFalsely : Prop := scriptOnRow.holds Tryz.pinned (OpenSpec.ofChange scriptOnWrong)

/-- 'veillaw25.ScriptLonger': WHATEVER THE INPUT: true; the input reads as it did. -/
def scriptLongerSpec : ChangeSpec := { name := "scriptLonger", fn := fun _ => fun
  | [d1, d2, d3] => { results := [.lit (.bool true)], args := [d1, d2, d3] }
  | _ => none }
def scriptLongerRow : OpenClaim := { program := "ytjgbbmcjbfpjfaagreat", sum := "0051b4d97ae8fe8b27e9debaaeec89288768197d44781ae3a61f084efb6d539c", func := "veil/veillaw25.ScriptLonger", spec := "scriptLonger", inPlace := ["slices.overlaps[veil/api.Write]"], unfollowed := true, recurses := true, apart := false }
def ScriptLongerSaid : Prop := scriptLongerRow.holds Tryz.pinned (OpenSpec.ofChange scriptLongerSpec)

/-- ITS FALSE NEIGHBOUR: 'it returns false'. Refute it at one input. -/
def scriptLongerWrong : ChangeSpec := { name := "scriptLonger", fn := fun _ => fun
  | [d1, d2, d3] => { results := [.lit (.bool false)], args := [d1, d2, d3] }
  | _ => none }
def ScriptLongerWrongFalsely : Prop := scriptLongerRow.holds Tryz.pinned (OpenSpec.ofChange scriptLongerWrong)

/- THE SECOND FORM. 'bulk': how many values and letters a reading holds, each counted each time it is reached (what is shared counts as often as it is met; a slice's spare places count too). A statement '..UptoSaid' is the law's where the arguments, and the package variables that the reading takes, are together of bulk at most 1048576: NARROWER than '..Said'. Prove '..Said' where nothing that the law and all that it calls make is longer than what came in: it says more and counts as full. Else prove '..UptoSaid'. A law counts once. -/
mutual
def uptoBulk {H : Type} : DataW H → Nat
  | .lit (.string bytes) => bytes.length + 1
  | .lit _ => 1
  | .nil => 1
  | .ptr d => uptoBulk d + 1
  | .slice elems spare => uptoBulkAll elems + uptoBulkAll spare + 1
  | .agg parts => uptoBulkAll parts + 1
  | .iface _ d => uptoBulk d + 1
  | .map entries => uptoBulkEntries entries + 1
  | .held _ => 1
def uptoBulkAll {H : Type} : List (DataW H) → Nat
  | [] => 0
  | d :: r => uptoBulk d + uptoBulkAll r
def uptoBulkEntries {H : Type} : List (Lit × DataW H) → Nat
  | [] => 0
  | x :: r => uptoBulkEntry x + uptoBulkEntries r
def uptoBulkEntry {H : Type} : Lit × DataW H → Nat
  | (.string bytes, d) => bytes.length + uptoBulk d + 1
  | (_, d) => uptoBulk d + 1
 end
def uptoSmall : (H : Type) → List (DataW H) → Bool := fun _ ds => decide (uptoBulkAll ds ≤ 1048576)
def OpenSpec.upto (s : _root_.Go.ChangeSpec) : _root_.Go.OpenSpec := { _root_.Go.OpenSpec.ofChange s with cond := some uptoSmall }

/-- 'veillaw25.Scripts', WHERE WHAT IT READS IS OF BULK AT MOST 1048576: true; the input reads as it did. -/
def scriptsUptoRow : OpenClaim := { program := "ytjgbbmcjbfpjfaagreat", sum := "0051b4d97ae8fe8b27e9debaaeec89288768197d44781ae3a61f084efb6d539c", func := "veil/veillaw25.Scripts", spec := "scripts", inPlace := ["slices.overlaps[veil/api.Write]"], unfollowed := true, recurses := true, apart := false, narrowed := true }
def ScriptsUptoSaid : Prop := scriptsUptoRow.holds Tryz.pinned (OpenSpec.upto scriptsSpec)

/-- 'veillaw25.ScriptVeiled', WHERE WHAT IT READS IS OF BULK AT MOST 1048576: true; the input reads as it did. -/
def scriptVeiledUptoRow : OpenClaim := { program := "ytjgbbmcjbfpjfaagreat", sum := "0051b4d97ae8fe8b27e9debaaeec89288768197d44781ae3a61f084efb6d539c", func := "veil/veillaw25.ScriptVeiled", spec := "scriptVeiled", inPlace := ["slices.overlaps[veil/api.Write]"], unfollowed := true, recurses := true, apart := false, narrowed := true }
def ScriptVeiledUptoSaid : Prop := scriptVeiledUptoRow.holds Tryz.pinned (OpenSpec.upto scriptVeiledSpec)

/-- 'veillaw25.ScriptForms', WHERE WHAT IT READS IS OF BULK AT MOST 1048576: true; the input reads as it did. -/
def scriptFormsUptoRow : OpenClaim := { program := "ytjgbbmcjbfpjfaagreat", sum := "0051b4d97ae8fe8b27e9debaaeec89288768197d44781ae3a61f084efb6d539c", func := "veil/veillaw25.ScriptForms", spec := "scriptForms", inPlace := ["slices.overlaps[veil/api.Write]"], unfollowed := true, recurses := true, apart := false, narrowed := true }
def ScriptFormsUptoSaid : Prop := scriptFormsUptoRow.holds Tryz.pinned (OpenSpec.upto scriptFormsSpec)

/-- 'veillaw25.ScriptBelow', WHERE WHAT IT READS IS OF BULK AT MOST 1048576: true; the input reads as it did. -/
def scriptBelowUptoRow : OpenClaim := { program := "ytjgbbmcjbfpjfaagreat", sum := "0051b4d97ae8fe8b27e9debaaeec89288768197d44781ae3a61f084efb6d539c", func := "veil/veillaw25.ScriptBelow", spec := "scriptBelow", inPlace := ["slices.overlaps[veil/api.Write]"], unfollowed := true, recurses := true, apart := false, narrowed := true }
def ScriptBelowUptoSaid : Prop := scriptBelowUptoRow.holds Tryz.pinned (OpenSpec.upto scriptBelowSpec)

/-- 'veillaw25.ScriptSeen', WHERE WHAT IT READS IS OF BULK AT MOST 1048576: true; the input reads as it did. -/
def scriptSeenUptoRow : OpenClaim := { program := "ytjgbbmcjbfpjfaagreat", sum := "0051b4d97ae8fe8b27e9debaaeec89288768197d44781ae3a61f084efb6d539c", func := "veil/veillaw25.ScriptSeen", spec := "scriptSeen", inPlace := ["slices.overlaps[veil/api.Write]"], unfollowed := true, recurses := true, apart := false, narrowed := true }
def ScriptSeenUptoSaid : Prop := scriptSeenUptoRow.holds Tryz.pinned (OpenSpec.upto scriptSeenSpec)

/-- 'veillaw25.ScriptOn', WHERE WHAT IT READS IS OF BULK AT MOST 1048576: true; the input reads as it did. -/
def scriptOnUptoRow : OpenClaim := { program := "ytjgbbmcjbfpjfaagreat", sum := "0051b4d97ae8fe8b27e9debaaeec89288768197d44781ae3a61f084efb6d539c", func := "veil/veillaw25.ScriptOn", spec := "scriptOn", inPlace := ["slices.overlaps[veil/api.Write]"], unfollowed := true, recurses := true, apart := false, narrowed := true }
def ScriptOnUptoSaid : Prop := scriptOnUptoRow.holds Tryz.pinned (OpenSpec.upto scriptOnSpec)

/-- 'veillaw25.ScriptLonger', WHERE WHAT IT READS IS OF BULK AT MOST 1048576: true; the input reads as it did. -/
def scriptLongerUptoRow : OpenClaim := { program := "ytjgbbmcjbfpjfaagreat", sum := "0051b4d97ae8fe8b27e9debaaeec89288768197d44781ae3a61f084efb6d539c", func := "veil/veillaw25.ScriptLonger", spec := "scriptLonger", inPlace := ["slices.overlaps[veil/api.Write]"], unfollowed := true, recurses := true, apart := false, narrowed := true }
def ScriptLongerUptoSaid : Prop := scriptLongerUptoRow.holds Tryz.pinned (OpenSpec.upto scriptLongerSpec)

end Rows
end Go.Proofs.YtjgbbmcjbfpjfaaGreat
