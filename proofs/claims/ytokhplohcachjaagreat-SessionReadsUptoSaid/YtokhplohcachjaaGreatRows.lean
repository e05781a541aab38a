/-
  No cell of these rows narrows 'for every input' (looked for: loops, veiled, ifaces, maps, wideKeys, modest, calm, conditions, laid).
  DERIVED. THE GIVEN ROWS OF THIS SEAT. 12 by the template 'for every input the law returns true; each argument reads behind the call as it read before'; 0 by the template 'total and deterministic' (their statements: YtokhplohcachjaaGreatTotals.lean).
  GIVEN WITH THE SEED: the statements are not yours to turn. If you find one false, say at which input.
  Laid BY PROGRAM, IN A SANDBOX (cutbox-rows.mjs): the forced cells as the released guide's own fill.sh prints them over the translation c8a2f4dfe137f533… (all of the seat's roots in one cut). By AI agents, Wed Nov 11 2026. No macro, syntax, notation, axiom, sorry.
-/
import Derived.Test.YtokhplohcachjaaGreatChecked
import GoSem.Claim
import GoSem.ClaimJoined
import GoSem.ClaimMapViews
import Derived.JoinedTies
import Derived.KernelRfl
namespace Go.Proofs.YtokhplohcachjaaGreat
/- THE CELL 'sum', in the pinned program and in every row, IS THE sha256 OF THE DUMP (.gsa) THAT YtokhplohcachjaaGreatProg.lean LOADS. Nothing in Lean hashes anything: it is a label: what it is worth is what the hold of that sum in a sandbox is worth. -/
noncomputable def Tryz.pinned : Pinned := { name := "ytokhplohcachjaagreat", sum := "c8a2f4dfe137f533f7d5a2d80c66ed48a38a3de33b02d0f2975a6c54414f1000", checked := Tryz.checked }
namespace Rows
def none {H : Type} : Left H := { results := [], args := [] }

/-- 'veillaw23.Sessions': WHATEVER THE INPUT: true; the input reads as it did. -/
def sessionsSpec : ChangeSpec := { name := "sessions", fn := fun _ => fun
  | [d1, d2] => { results := [.lit (.bool true)], args := [d1, d2] }
  | _ => none }
def sessionsRow : OpenClaim := { program := "ytokhplohcachjaagreat", sum := "c8a2f4dfe137f533f7d5a2d80c66ed48a38a3de33b02d0f2975a6c54414f1000", func := "veil/veillaw23.Sessions", spec := "sessions", inPlace := ["slices.overlaps[veil/api.Write]"], unfollowed := true, recurses := true, apart := false }
def SessionsSaid : Prop := sessionsRow.holds Tryz.pinned (OpenSpec.ofChange sessionsSpec)

/-- ITS FALSE NEIGHBOUR: 'it returns false'. Refute it at one input. -/
def sessionsWrong : ChangeSpec := { name := "sessions", fn := fun _ => fun
  | [d1, d2] => { results := [.lit (.bool false)], args := [d1, d2] }
  | _ => none }
def SessionsWrongFalsely : Prop := sessionsRow.holds Tryz.pinned (OpenSpec.ofChange sessionsWrong)

/-- 'veillaw23.SessionForms': WHATEVER THE INPUT: true; the input reads as it did. -/
def sessionFormsSpec : ChangeSpec := { name := "sessionForms", fn := fun _ => fun
  | [d1, d2] => { results := [.lit (.bool true)], args := [d1, d2] }
  | _ => none }
def sessionFormsRow : OpenClaim := { program := "ytokhplohcachjaagreat", sum := "c8a2f4dfe137f533f7d5a2d80c66ed48a38a3de33b02d0f2975a6c54414f1000", func := "veil/veillaw23.SessionForms", spec := "sessionForms", inPlace := ["slices.overlaps[veil/api.Write]"], unfollowed := true, recurses := true, apart := false }
def SessionFormsSaid : Prop := sessionFormsRow.holds Tryz.pinned (OpenSpec.ofChange sessionFormsSpec)

/-- ITS FALSE NEIGHBOUR: 'it returns false'. Refute it at one input. -/
def sessionFormsWrong : ChangeSpec := { name := "sessionForms", fn := fun _ => fun
  | [d1, d2] => { results := [.lit (.bool false)], args := [d1, d2] }
  | _ => none }
def SessionFormsWrongFalsely : Prop := sessionFormsRow.holds Tryz.pinned (OpenSpec.ofChange sessionFormsWrong)

/-- 'veillaw23.SessionEnds': WHATEVER THE INPUT: true; the input reads as it did. -/
def sessionEndsSpec : ChangeSpec := { name := "sessionEnds", fn := fun _ => fun
  | [d1, d2, d3, d4] => { results := [.lit (.bool true)], args := [d1, d2, d3, d4] }
  | _ => none }
def sessionEndsRow : OpenClaim := { program := "ytokhplohcachjaagreat", sum := "c8a2f4dfe137f533f7d5a2d80c66ed48a38a3de33b02d0f2975a6c54414f1000", func := "veil/veillaw23.SessionEnds", spec := "sessionEnds", inPlace := ["slices.overlaps[veil/api.Write]"], unfollowed := true, recurses := true, apart := false }
def SessionEndsSaid : Prop := sessionEndsRow.holds Tryz.pinned (OpenSpec.ofChange sessionEndsSpec)

/-- ITS FALSE NEIGHBOUR: 'it returns false'. Refute it at one input. -/
def sessionEndsWrong : ChangeSpec := { name := "sessionEnds", fn := fun _ => fun
  | [d1, d2, d3, d4] => { results := [.lit (.bool false)], args := [d1, d2, d3, d4] }
  | _ => none }
def SessionEndsWrongFalsely : Prop := sessionEndsRow.holds Tryz.pinned (OpenSpec.ofChange sessionEndsWrong)

/-- 'veillaw23.SessionAborts': WHATEVER THE INPUT: true; the input reads as it did. -/
def sessionAbortsSpec : ChangeSpec := { name := "sessionAborts", fn := fun _ => fun
  | [d1, d2] => { results := [.lit (.bool true)], args := [d1, d2] }
  | _ => none }
def sessionAbortsRow : OpenClaim := { program := "ytokhplohcachjaagreat", sum := "c8a2f4dfe137f533f7d5a2d80c66ed48a38a3de33b02d0f2975a6c54414f1000", func := "veil/veillaw23.SessionAborts", spec := "sessionAborts", inPlace := ["slices.overlaps[veil/api.Write]"], unfollowed := true, recurses := true, apart := false }
def SessionAbortsSaid : Prop := sessionAbortsRow.holds Tryz.pinned (OpenSpec.ofChange sessionAbortsSpec)

/-- ITS FALSE NEIGHBOUR: 'it returns false'. Refute it at one input. -/
def sessionAbortsWrong : ChangeSpec := { name := "sessionAborts", fn := fun _ => fun
  | [d1, d2] => { results := [.lit (.bool false)], args := [d1, d2] }
  | _ => none }
def SessionAbortsWrongFalsely : Prop := sessionAbortsRow.holds Tryz.pinned (OpenSpec.ofChange sessionAbortsWrong)

/-- 'veillaw23.SessionOne': WHATEVER THE INPUT: true; the input reads as it did. -/
def sessionOneSpec : ChangeSpec := { name := "sessionOne", fn := fun _ => fun
  | [d1, d2] => { results := [.lit (.bool true)], args := [d1, d2] }
  | _ => none }
def sessionOneRow : OpenClaim := { program := "ytokhplohcachjaagreat", sum := "c8a2f4dfe137f533f7d5a2d80c66ed48a38a3de33b02d0f2975a6c54414f1000", func := "veil/veillaw23.SessionOne", spec := "sessionOne", inPlace := ["slices.overlaps[veil/api.Write]"], unfollowed := true, recurses := true, apart := false }
def SessionOneSaid : Prop := sessionOneRow.holds Tryz.pinned (OpenSpec.ofChange sessionOneSpec)

/-- ITS FALSE NEIGHBOUR: 'it returns false'. Refute it at one input. -/
def sessionOneWrong : ChangeSpec := { name := "sessionOne", fn := fun _ => fun
  | [d1, d2] => { results := [.lit (.bool false)], args := [d1, d2] }
  | _ => none }
def SessionOneWrongFalsely : Prop := sessionOneRow.holds Tryz.pinned (OpenSpec.ofChange sessionOneWrong)

/-- 'veillaw23.SessionLabels': WHATEVER THE INPUT: true; the input reads as it did. -/
def sessionLabelsSpec : ChangeSpec := { name := "sessionLabels", fn := fun _ => fun
  | [d1, d2, d3] => { results := [.lit (.bool true)], args := [d1, d2, d3] }
  | _ => none }
def sessionLabelsRow : OpenClaim := { program := "ytokhplohcachjaagreat", sum := "c8a2f4dfe137f533f7d5a2d80c66ed48a38a3de33b02d0f2975a6c54414f1000", func := "veil/veillaw23.SessionLabels", spec := "sessionLabels", inPlace := ["slices.overlaps[veil/api.Write]"], unfollowed := true, recurses := true, apart := false }
def SessionLabelsSaid : Prop := sessionLabelsRow.holds Tryz.pinned (OpenSpec.ofChange sessionLabelsSpec)

/-- ITS FALSE NEIGHBOUR: 'it returns false'. Refute it at one input. -/
def sessionLabelsWrong : ChangeSpec := { name := "sessionLabels", fn := fun _ => fun
  | [d1, d2, d3] => { results := [.lit (.bool false)], args := [d1, d2, d3] }
  | _ => none }
def SessionLabelsWrongFalsely : Prop := sessionLabelsRow.holds Tryz.pinned (OpenSpec.ofChange sessionLabelsWrong)

/-- 'veillaw23.SessionReads': WHATEVER THE INPUT: true; the input reads as it did. -/
def sessionReadsSpec : ChangeSpec := { name := "sessionReads", fn := fun _ => fun
  | [d] => { results := [.lit (.bool true)], args := [d] }
  | _ => none }
def sessionReadsRow : OpenClaim := { program := "ytokhplohcachjaagreat", sum := "c8a2f4dfe137f533f7d5a2d80c66ed48a38a3de33b02d0f2975a6c54414f1000", func := "veil/veillaw23.SessionReads", spec := "sessionReads", inPlace := ["slices.overlaps[veil/api.Write]"], unfollowed := true, recurses := true, apart := false }
def SessionReadsSaid : Prop := sessionReadsRow.holds Tryz.pinned (OpenSpec.ofChange sessionReadsSpec)

/-- ITS FALSE NEIGHBOUR: 'it returns false'. Refute it at one input. -/
def sessionReadsWrong : ChangeSpec := { name := "sessionReads", fn := fun _ => fun
  | [d] => { results := [.lit (.bool false)], args := [d] }
  | _ => none }
def SessionReadsWrongFalsely : Prop := sessionReadsRow.holds Tryz.pinned (OpenSpec.ofChange sessionReadsWrong)

/-- 'veillaw24.Slots': WHATEVER THE INPUT: true; the input reads as it did. -/
def slotsSpec : ChangeSpec := { name := "slots", fn := fun _ => fun
  | [d1, d2] => { results := [.lit (.bool true)], args := [d1, d2] }
  | _ => none }
def slotsRow : OpenClaim := { program := "ytokhplohcachjaagreat", sum := "c8a2f4dfe137f533f7d5a2d80c66ed48a38a3de33b02d0f2975a6c54414f1000", func := "veil/veillaw24.Slots", spec := "slots", inPlace := ["slices.overlaps[veil/api.Write]"], unfollowed := true, recurses := true, apart := false }
def SlotsSaid : Prop := slotsRow.holds Tryz.pinned (OpenSpec.ofChange slotsSpec)

/-- ITS FALSE NEIGHBOUR: 'it returns false'. Refute it at one input. -/
def slotsWrong : ChangeSpec := { name := "slots", fn := fun _ => fun
  | [d1, d2] => { results := [.lit (.bool false)], args := [d1, d2] }
  | _ => none }
def SlotsWrongFalsely : Prop := slotsRow.holds Tryz.pinned (OpenSpec.ofChange slotsWrong)

/-- 'veillaw24.SlotForms': WHATEVER THE INPUT: true; the input reads as it did. -/
def slotFormsSpec : ChangeSpec := { name := "slotForms", fn := fun _ => fun
  | [d1, d2] => { results := [.lit (.bool true)], args := [d1, d2] }
  | _ => none }
def slotFormsRow : OpenClaim := { program := "ytokhplohcachjaagreat", sum := "c8a2f4dfe137f533f7d5a2d80c66ed48a38a3de33b02d0f2975a6c54414f1000", func := "veil/veillaw24.SlotForms", spec := "slotForms", inPlace := ["slices.overlaps[veil/api.Write]"], unfollowed := true, recurses := true, apart := false }
def SlotFormsSaid : Prop := slotFormsRow.holds Tryz.pinned (OpenSpec.ofChange slotFormsSpec)

/-- ITS FALSE NEIGHBOUR: 'it returns false'. Refute it at one input. -/
def slotFormsWrong : ChangeSpec := { name := "slotForms", fn := fun _ => fun
  | [d1, d2] => { results := [.lit (.bool false)], args := [d1, d2] }
  | _ => none }
def SlotFormsWrongFalsely : Prop := slotFormsRow.holds Tryz.pinned (OpenSpec.ofChange slotFormsWrong)

/-- 'veillaw24.SlotFair': WHATEVER THE INPUT: true; the input reads as it did. -/
def slotFairSpec : ChangeSpec := { name := "slotFair", fn := fun _ => fun
  | [d1, d2, d3] => { results := [.lit (.bool true)], args := [d1, d2, d3] }
  | _ => none }
def slotFairRow : OpenClaim := { program := "ytokhplohcachjaagreat", sum := "c8a2f4dfe137f533f7d5a2d80c66ed48a38a3de33b02d0f2975a6c54414f1000", func := "veil/veillaw24.SlotFair", spec := "slotFair", inPlace := ["slices.overlaps[veil/api.Write]"], unfollowed := true, recurses := true, apart := false }
def SlotFairSaid : Prop := slotFairRow.holds Tryz.pinned (OpenSpec.ofChange slotFairSpec)

/-- ITS FALSE NEIGHBOUR: 'it returns false'. Refute it at one input. -/
def slotFairWrong : ChangeSpec := { name := "slotFair", fn := fun _ => fun
  | [d1, d2, d3] => { results := [.lit (.bool false)], args := [d1, d2, d3] }
  | _ => none }
def SlotFairWrongFalsely : Prop := slotFairRow.holds Tryz.pinned (OpenSpec.ofChange slotFairWrong)

/-- 'veillaw24.SlotOne': WHATEVER THE INPUT: true; the input reads as it did. -/
def slotOneSpec : ChangeSpec := { name := "slotOne", fn := fun _ => fun
  | [d1, d2] => { results := [.lit (.bool true)], args := [d1, d2] }
  | _ => none }
def slotOneRow : OpenClaim := { program := "ytokhplohcachjaagreat", sum := "c8a2f4dfe137f533f7d5a2d80c66ed48a38a3de33b02d0f2975a6c54414f1000", func := "veil/veillaw24.SlotOne", spec := "slotOne", inPlace := ["slices.overlaps[veil/api.Write]"], unfollowed := true, recurses := true, apart := false }
def SlotOneSaid : Prop := slotOneRow.holds Tryz.pinned (OpenSpec.ofChange slotOneSpec)

/-- ITS FALSE NEIGHBOUR: 'it returns false'. Refute it at one input. -/
def slotOneWrong : ChangeSpec := { name := "slotOne", fn := fun _ => fun
  | [d1, d2] => { results := [.lit (.bool false)], args := [d1, d2] }
  | _ => none }
def SlotOneWrongFalsely : Prop := slotOneRow.holds Tryz.pinned (OpenSpec.ofChange slotOneWrong)

/-- 'veillaw24.SlotLevels': WHATEVER THE INPUT: true; the input reads as it did. -/
def slotLevelsSpec : ChangeSpec := { name := "slotLevels", fn := fun _ => fun
  | [d1, d2] => { results := [.lit (.bool true)], args := [d1, d2] }
  | _ => none }
def slotLevelsRow : OpenClaim := { program := "ytokhplohcachjaagreat", sum := "c8a2f4dfe137f533f7d5a2d80c66ed48a38a3de33b02d0f2975a6c54414f1000", func := "veil/veillaw24.SlotLevels", spec := "slotLevels", inPlace := ["slices.overlaps[veil/api.Write]"], unfollowed := true, recurses := true, apart := false }
def SlotLevelsSaid : Prop := slotLevelsRow.holds Tryz.pinned (OpenSpec.ofChange slotLevelsSpec)

/-- ITS FALSE NEIGHBOUR: 'it returns false'. Refute it at one input. -/
def slotLevelsWrong : ChangeSpec := { name := "slotLevels", fn := fun _ => fun
  | [d1, d2] => { results := [.lit (.bool false)], args := [d1, d2] }
  | _ => none }
def SlotLevelsWrongFalsely : Prop := slotLevelsRow.holds Tryz.pinned (OpenSpec.ofChange slotLevelsWrong)

/- THE SECOND FORM. 'bulk': how many values and letters a reading holds, each counted each time it is reached (what is shared counts as often as it is met; a slice's spare places count too). A statement '..UptoSaid' is the law's where the arguments, and the package variables that the reading takes, are together of bulk at most 1048576: NARROWER than '..Said'. Prove '..Said' where nothing that the law and all that it calls make is longer than what came in: it says more and counts as full. Else prove '..UptoSaid'. A law counts once. -/
mutual
def uptoBulk {H : Type} : DataW H → Nat
  | .lit (.string bytes) => bytes.length + 1
  | .lit _ => 1
  | .nil => 1
  | .ptr d => uptoBulk d + 1
  | .slice elems spare => uptoBulkAll elems + uptoBulkAll spare + 1
  | .agg parts => uptoBulkAll parts + 1
  | .iface _ d => uptoBulk d + 1
  | .map entries => uptoBulkEntries entries + 1
  | .held _ => 1
def uptoBulkAll {H : Type} : List (DataW H) → Nat
  | [] => 0
  | d :: r => uptoBulk d + uptoBulkAll r
def uptoBulkEntries {H : Type} : List (Lit × DataW H) → Nat
  | [] => 0
  | x :: r => uptoBulkEntry x + uptoBulkEntries r
def uptoBulkEntry {H : Type} : Lit × DataW H → Nat
  | (.string bytes, d) => bytes.length + uptoBulk d + 1
  | (_, d) => uptoBulk d + 1
 end
def uptoSmall : (H : Type) → List (DataW H) → Bool := fun _ ds => decide (uptoBulkAll ds ≤ 1048576)
def OpenSpec.upto (s : _root_.Go.ChangeSpec) : _root_.Go.OpenSpec := { _root_.Go.OpenSpec.ofChange s with cond := some uptoSmall }

/-- 'veillaw23.Sessions', WHERE WHAT IT READS IS OF BULK AT MOST 1048576: true; the input reads as it did. -/
def sessionsUptoRow : OpenClaim := { program := "ytokhplohcachjaagreat", sum := "c8a2f4dfe137f533f7d5a2d80c66ed48a38a3de33b02d0f2975a6c54414f1000", func := "veil/veillaw23.Sessions", spec := "sessions", inPlace := ["slices.overlaps[veil/api.Write]"], unfollowed := true, recurses := true, apart := false, narrowed := true }
def SessionsUptoSaid : Prop := sessionsUptoRow.holds Tryz.pinned (OpenSpec.upto sessionsSpec)

/-- 'veillaw23.SessionForms', WHERE WHAT IT READS IS OF BULK AT MOST 1048576: true; the input reads as it did. -/
def sessionFormsUptoRow : OpenClaim := { program := "ytokhplohcachjaagreat", sum := "c8a2f4dfe137f533f7d5a2d80c66ed48a38a3de33b02d0f2975a6c54414f1000", func := "veil/veillaw23.SessionForms", spec := "sessionForms", inPlace := ["slices.overlaps[veil/api.Write]"], unfollowed := true, recurses := true, apart := false, narrowed := true }
def SessionFormsUptoSaid : Prop := sessionFormsUptoRow.holds Tryz.pinned (OpenSpec.upto sessionFormsSpec)

/-- 'veillaw23.SessionEnds', WHERE WHAT IT READS IS OF BULK AT MOST 1048576: true; the input reads as it did. -/
def sessionEndsUptoRow : OpenClaim := { program := "ytokhplohcachjaagreat", sum := "c8a2f4dfe137f533f7d5a2d80c66ed48a38a3de33b02d0f2975a6c54414f1000", func := "veil/veillaw23.SessionEnds", spec := "sessionEnds", inPlace := ["slices.overlaps[veil/api.Write]"], unfollowed := true, recurses := true, apart := false, narrowed := true }
def SessionEndsUptoSaid : Prop := sessionEndsUptoRow.holds Tryz.pinned (OpenSpec.upto sessionEndsSpec)

/-- 'veillaw23.SessionAborts', WHERE WHAT IT READS IS OF BULK AT MOST 1048576: true; the input reads as it did. -/
def sessionAbortsUptoRow : OpenClaim := { program := "ytokhplohcachjaagreat", sum := "c8a2f4dfe137f533f7d5a2d80c66ed48a38a3de33b02d0f2975a6c54414f1000", func := "veil/veillaw23.SessionAborts", spec := "sessionAborts", inPlace := ["slices.overlaps[veil/api.Write]"], unfollowed := true, recurses := true, apart := false, narrowed := true }
def SessionAbortsUptoSaid : Prop := sessionAbortsUptoRow.holds Tryz.pinned (OpenSpec.upto sessionAbortsSpec)

/-- 'veillaw23.SessionOne', WHERE WHAT IT READS IS OF BULK AT MOST 1048576: true; the input reads as it did. -/
def sessionOneUptoRow : OpenClaim := { program := "ytokhplohcachjaagreat", sum := "c8a2f4dfe137f533f7d5a2d80c66ed48a38a3de33b02d0f2975a6c54414f1000", func := "veil/veillaw23.SessionOne", spec := "sessionOne", inPlace := ["slices.overlaps[veil/api.Write]"], unfollowed := true, recurses := true, apart := false, narrowed := true }
def SessionOneUptoSaid : Prop := sessionOneUptoRow.holds Tryz.pinned (OpenSpec.upto sessionOneSpec)

/-- 'veillaw23.SessionLabels', WHERE WHAT IT READS IS OF BULK AT MOST 1048576: true; the input reads as it did. -/
def sessionLabelsUptoRow : OpenClaim := { program := "ytokhplohcachjaagreat", sum := "c8a2f4dfe137f533f7d5a2d80c66ed48a38a3de33b02d0f2975a6c54414f1000", func := "veil/veillaw23.SessionLabels", spec := "sessionLabels", inPlace := ["slices.overlaps[veil/api.Write]"], unfollowed := true, recurses := true, apart := false, narrowed := true }
def SessionLabelsUptoSaid : Prop := sessionLabelsUptoRow.holds Tryz.pinned (OpenSpec.upto sessionLabelsSpec)

/-- 'veillaw23.SessionReads', WHERE WHAT IT READS IS OF BULK AT MOST 1048576: true; the input reads as it did. -/
def sessionReadsUptoRow : OpenClaim := { program := "ytokhplohcachjaagreat", sum := "c8a2f4dfe137f533f7d5a2d80c66ed48a38a3de33b02d0f2975a6c54414f1000", func := "veil/veillaw23.SessionReads", spec := "sessionReads", inPlace := ["slices.overlaps[veil/api.Write]"], unfollowed := true, recurses := true, apart := false, narrowed := true }
def SessionReadsUptoSaid : Prop := sessionReadsUptoRow.holds Tryz.pinned (OpenSpec.upto sessionReadsSpec)

/-- 'veillaw24.Slots', WHERE WHAT IT READS IS OF BULK AT MOST 1048576: true; the input reads as it did. -/
def slotsUptoRow : OpenClaim := { program := "ytokhplohcachjaagreat", sum := "c8a2f4dfe137f533f7d5a2d80c66ed48a38a3de33b02d0f2975a6c54414f1000", func := "veil/veillaw24.Slots", spec := "slots", inPlace := ["slices.overlaps[veil/api.Write]"], unfollowed := true, recurses := true, apart := false, narrowed := true }
def SlotsUptoSaid : Prop := slotsUptoRow.holds Tryz.pinned (OpenSpec.upto slotsSpec)

/-- 'veillaw24.SlotForms', WHERE WHAT IT READS IS OF BULK AT MOST 1048576: true; the input reads as it did. -/
def slotFormsUptoRow : OpenClaim := { program := "ytokhplohcachjaagreat", sum := "c8a2f4dfe137f533f7d5a2d80c66ed48a38a3de33b02d0f2975a6c54414f1000", func := "veil/veillaw24.SlotForms", spec := "slotForms", inPlace := ["slices.overlaps[veil/api.Write]"], unfollowed := true, recurses := true, apart := false, narrowed := true }
def SlotFormsUptoSaid : Prop := slotFormsUptoRow.holds Tryz.pinned (OpenSpec.upto slotFormsSpec)

/-- 'veillaw24.SlotFair', WHERE WHAT IT READS IS OF BULK AT MOST 1048576: true; the input reads as it did. -/
def slotFairUptoRow : OpenClaim := { program := "ytokhplohcachjaagreat", sum := "c8a2f4dfe137f533f7d5a2d80c66ed48a38a3de33b02d0f2975a6c54414f1000", func := "veil/veillaw24.SlotFair", spec := "slotFair", inPlace := ["slices.overlaps[veil/api.Write]"], unfollowed := true, recurses := true, apart := false, narrowed := true }
def SlotFairUptoSaid : Prop := slotFairUptoRow.holds Tryz.pinned (OpenSpec.upto slotFairSpec)

/-- 'veillaw24.SlotOne', WHERE WHAT IT READS IS OF BULK AT MOST 1048576: true; the input reads as it did. -/
def slotOneUptoRow : OpenClaim := { program := "ytokhplohcachjaagreat", sum := "c8a2f4dfe137f533f7d5a2d80c66ed48a38a3de33b02d0f2975a6c54414f1000", func := "veil/veillaw24.SlotOne", spec := "slotOne", inPlace := ["slices.overlaps[veil/api.Write]"], unfollowed := true, recurses := true, apart := false, narrowed := true }
def SlotOneUptoSaid : Prop := slotOneUptoRow.holds Tryz.pinned (OpenSpec.upto slotOneSpec)

/-- 'veillaw24.SlotLevels', WHERE WHAT IT READS IS OF BULK AT MOST 1048576: true; the input reads as it did. -/
def slotLevelsUptoRow : OpenClaim := { program := "ytokhplohcachjaagreat", sum := "c8a2f4dfe137f533f7d5a2d80c66ed48a38a3de33b02d0f2975a6c54414f1000", func := "veil/veillaw24.SlotLevels", spec := "slotLevels", inPlace := ["slices.overlaps[veil/api.Write]"], unfollowed := true, recurses := true, apart := false, narrowed := true }
def SlotLevelsUptoSaid : Prop := slotLevelsUptoRow.holds Tryz.pinned (OpenSpec.upto slotLevelsSpec)

end Rows
end Go.Proofs.YtokhplohcachjaaGreat
