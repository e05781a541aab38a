/-
  No cell of these rows narrows 'for every input' (looked for: loops, veiled, ifaces, maps, wideKeys, modest, calm, conditions, laid).
  DERIVED. THE GIVEN ROWS OF THIS SEAT. 12 by the template 'for every input the law returns true; each argument reads behind the call as it read before'; 0 by the template 'total and deterministic' (their statements: YthllnfkddiaokaaGreatTotals.lean).
  GIVEN WITH THE SEED: the statements are not yours to turn. If you find one false, say at which input.
  Laid BY PROGRAM, IN A SANDBOX (cutbox-rows.mjs): the forced cells as the released guide's own fill.sh prints them over the translation f5d3fb6e817074f5… (all of the seat's roots in one cut). By AI agents, Wed Nov 11 2026. No macro, syntax, notation, axiom, sorry.
-/
import Derived.Test.YthllnfkddiaokaaGreatChecked
import GoSem.Claim
import GoSem.ClaimJoined
import GoSem.ClaimMapViews
import Derived.JoinedTies
import Derived.KernelRfl
namespace Go.Proofs.YthllnfkddiaokaaGreat
/- THE CELL 'sum', in the pinned program and in every row, IS THE sha256 OF THE DUMP (.gsa) THAT YthllnfkddiaokaaGreatProg.lean LOADS. Nothing in Lean hashes anything: it is a label: what it is worth is what the hold of that sum in a sandbox is worth. -/
noncomputable def Tryz.pinned : Pinned := { name := "ythllnfkddiaokaagreat", sum := "f5d3fb6e817074f5846430141270cc05268d4f70691dc2eb19d045745e76aafe", checked := Tryz.checked }
namespace Rows
def none {H : Type} : Left H := { results := [], args := [] }

/-- 'veiltop.TopSerial': WHATEVER THE INPUT: true; the input reads as it did. -/
def topSerialSpec : ChangeSpec := { name := "topSerial", fn := fun _ => fun
  | [d] => { results := [.lit (.bool true)], args := [d] }
  | _ => none }
def topSerialRow : OpenClaim := { program := "ythllnfkddiaokaagreat", sum := "f5d3fb6e817074f5846430141270cc05268d4f70691dc2eb19d045745e76aafe", func := "veil/veiltop.TopSerial", spec := "topSerial", inPlace := ["slices.overlaps[veil/api.Write]"], unfollowed := true, recurses := true, apart := false }
def TopSerialSaid : Prop := topSerialRow.holds Tryz.pinned (OpenSpec.ofChange topSerialSpec)

/-- ITS FALSE NEIGHBOUR: 'it returns false'. Refute it at one input. -/
def topSerialWrong : ChangeSpec := { name := "topSerial", fn := fun _ => fun
  | [d] => { results := [.lit (.bool false)], args := [d] }
  | _ => none }
def TopSerialWrongFalsely : Prop := topSerialRow.holds Tryz.pinned (OpenSpec.ofChange topSerialWrong)

/-- 'veiltop.TopHalfway': WHATEVER THE INPUT: true; the input reads as it did. -/
def topHalfwaySpec : ChangeSpec := { name := "topHalfway", fn := fun _ => fun
  | [d] => { results := [.lit (.bool true)], args := [d] }
  | _ => none }
def topHalfwayRow : OpenClaim := { program := "ythllnfkddiaokaagreat", sum := "f5d3fb6e817074f5846430141270cc05268d4f70691dc2eb19d045745e76aafe", func := "veil/veiltop.TopHalfway", spec := "topHalfway", inPlace := ["slices.overlaps[veil/api.Write]"], unfollowed := true, recurses := true, apart := false }
def TopHalfwaySaid : Prop := topHalfwayRow.holds Tryz.pinned (OpenSpec.ofChange topHalfwaySpec)

/-- ITS FALSE NEIGHBOUR: 'it returns false'. Refute it at one input. -/
def topHalfwayWrong : ChangeSpec := { name := "topHalfway", fn := fun _ => fun
  | [d] => { results := [.lit (.bool false)], args := [d] }
  | _ => none }
def TopHalfwayWrongFalsely : Prop := topHalfwayRow.holds Tryz.pinned (OpenSpec.ofChange topHalfwayWrong)

/-- 'veiltop.TopWoken': WHATEVER THE INPUT: true; the input reads as it did. -/
def topWokenSpec : ChangeSpec := { name := "topWoken", fn := fun _ => fun
  | [d] => { results := [.lit (.bool true)], args := [d] }
  | _ => none }
def topWokenRow : OpenClaim := { program := "ythllnfkddiaokaagreat", sum := "f5d3fb6e817074f5846430141270cc05268d4f70691dc2eb19d045745e76aafe", func := "veil/veiltop.TopWoken", spec := "topWoken", inPlace := ["slices.overlaps[veil/api.Write]"], unfollowed := true, recurses := true, apart := false }
def TopWokenSaid : Prop := topWokenRow.holds Tryz.pinned (OpenSpec.ofChange topWokenSpec)

/-- ITS FALSE NEIGHBOUR: 'it returns false'. Refute it at one input. -/
def topWokenWrong : ChangeSpec := { name := "topWoken", fn := fun _ => fun
  | [d] => { results := [.lit (.bool false)], args := [d] }
  | _ => none }
def TopWokenWrongFalsely : Prop := topWokenRow.holds Tryz.pinned (OpenSpec.ofChange topWokenWrong)

/-- 'veiltop.TopOn': WHATEVER THE INPUT: true; the input reads as it did. -/
def topOnSpec : ChangeSpec := { name := "topOn", fn := fun _ => fun
  | [d1, d2] => { results := [.lit (.bool true)], args := [d1, d2] }
  | _ => none }
def topOnRow : OpenClaim := { program := "ythllnfkddiaokaagreat", sum := "f5d3fb6e817074f5846430141270cc05268d4f70691dc2eb19d045745e76aafe", func := "veil/veiltop.TopOn", spec := "topOn", inPlace := ["slices.overlaps[veil/api.Write]"], unfollowed := true, recurses := true, apart := false }
def TopOnSaid : Prop := topOnRow.holds Tryz.pinned (OpenSpec.ofChange topOnSpec)

/-- ITS FALSE NEIGHBOUR: 'it returns false'. Refute it at one input. -/
def topOnWrong : ChangeSpec := { name := "topOn", fn := fun _ => fun
  | [d1, d2] => { results := [.lit (.bool false)], args := [d1, d2] }
  | _ => none }
def TopOnWrongFalsely : Prop := topOnRow.holds Tryz.pinned (OpenSpec.ofChange topOnWrong)

/-- 'veiltop.TopVersions': WHATEVER THE INPUT: true; the input reads as it did. -/
def topVersionsSpec : ChangeSpec := { name := "topVersions", fn := fun _ => fun
  | [d] => { results := [.lit (.bool true)], args := [d] }
  | _ => none }
def topVersionsRow : OpenClaim := { program := "ythllnfkddiaokaagreat", sum := "f5d3fb6e817074f5846430141270cc05268d4f70691dc2eb19d045745e76aafe", func := "veil/veiltop.TopVersions", spec := "topVersions", inPlace := ["slices.overlaps[veil/api.Write]"], unfollowed := true, recurses := true, apart := false }
def TopVersionsSaid : Prop := topVersionsRow.holds Tryz.pinned (OpenSpec.ofChange topVersionsSpec)

/-- ITS FALSE NEIGHBOUR: 'it returns false'. Refute it at one input. -/
def topVersionsWrong : ChangeSpec := { name := "topVersions", fn := fun _ => fun
  | [d] => { results := [.lit (.bool false)], args := [d] }
  | _ => none }
def TopVersionsWrongFalsely : Prop := topVersionsRow.holds Tryz.pinned (OpenSpec.ofChange topVersionsWrong)

/-- 'veiltop.TopTraces': WHATEVER THE INPUT: true; the input reads as it did. -/
def topTracesSpec : ChangeSpec := { name := "topTraces", fn := fun _ => fun
  | [d] => { results := [.lit (.bool true)], args := [d] }
  | _ => none }
def topTracesRow : OpenClaim := { program := "ythllnfkddiaokaagreat", sum := "f5d3fb6e817074f5846430141270cc05268d4f70691dc2eb19d045745e76aafe", func := "veil/veiltop.TopTraces", spec := "topTraces", inPlace := ["slices.overlaps[veil/api.Write]"], unfollowed := true, recurses := true, apart := false }
def TopTracesSaid : Prop := topTracesRow.holds Tryz.pinned (OpenSpec.ofChange topTracesSpec)

/-- ITS FALSE NEIGHBOUR: 'it returns false'. Refute it at one input. -/
def topTracesWrong : ChangeSpec := { name := "topTraces", fn := fun _ => fun
  | [d] => { results := [.lit (.bool false)], args := [d] }
  | _ => none }
def TopTracesWrongFalsely : Prop := topTracesRow.holds Tryz.pinned (OpenSpec.ofChange topTracesWrong)

/-- 'veiltop.TopHigh': WHATEVER THE INPUT: true; the input reads as it did. -/
def topHighSpec : ChangeSpec := { name := "topHigh", fn := fun _ => fun
  | [d1, d2, d3, d4, d5] => { results := [.lit (.bool true)], args := [d1, d2, d3, d4, d5] }
  | _ => none }
def topHighRow : OpenClaim := { program := "ythllnfkddiaokaagreat", sum := "f5d3fb6e817074f5846430141270cc05268d4f70691dc2eb19d045745e76aafe", func := "veil/veiltop.TopHigh", spec := "topHigh", inPlace := ["slices.overlaps[veil/api.Write]"], unfollowed := true, recurses := true, apart := false }
def TopHighSaid : Prop := topHighRow.holds Tryz.pinned (OpenSpec.ofChange topHighSpec)

/-- ITS FALSE NEIGHBOUR: 'it returns false'. Refute it at one input. -/
def topHighWrong : ChangeSpec := { name := "topHigh", fn := fun _ => fun
  | [d1, d2, d3, d4, d5] => { results := [.lit (.bool false)], args := [d1, d2, d3, d4, d5] }
  | _ => none }
def TopHighWrongFalsely : Prop := topHighRow.holds Tryz.pinned (OpenSpec.ofChange topHighWrong)

/-- 'veiltop.TopValues': WHATEVER THE INPUT: true; the input reads as it did. -/
def topValuesSpec : ChangeSpec := { name := "topValues", fn := fun _ => fun
  | [d1, d2, d3, d4, d5] => { results := [.lit (.bool true)], args := [d1, d2, d3, d4, d5] }
  | _ => none }
def topValuesRow : OpenClaim := { program := "ythllnfkddiaokaagreat", sum := "f5d3fb6e817074f5846430141270cc05268d4f70691dc2eb19d045745e76aafe", func := "veil/veiltop.TopValues", spec := "topValues", inPlace := ["slices.overlaps[veil/api.Write]"], unfollowed := true, recurses := true, apart := false }
def TopValuesSaid : Prop := topValuesRow.holds Tryz.pinned (OpenSpec.ofChange topValuesSpec)

/-- ITS FALSE NEIGHBOUR: 'it returns false'. Refute it at one input. -/
def topValuesWrong : ChangeSpec := { name := "topValues", fn := fun _ => fun
  | [d1, d2, d3, d4, d5] => { results := [.lit (.bool false)], args := [d1, d2, d3, d4, d5] }
  | _ => none }
def TopValuesWrongFalsely : Prop := topValuesRow.holds Tryz.pinned (OpenSpec.ofChange topValuesWrong)

/-- 'veiltop.TopVeiled': WHATEVER THE INPUT: true; the input reads as it did. -/
def topVeiledSpec : ChangeSpec := { name := "topVeiled", fn := fun _ => fun
  | [d1, d2, d3] => { results := [.lit (.bool true)], args := [d1, d2, d3] }
  | _ => none }
def topVeiledRow : OpenClaim := { program := "ythllnfkddiaokaagreat", sum := "f5d3fb6e817074f5846430141270cc05268d4f70691dc2eb19d045745e76aafe", func := "veil/veiltop.TopVeiled", spec := "topVeiled", inPlace := ["slices.overlaps[veil/api.Write]"], unfollowed := true, recurses := true, apart := false }
def TopVeiledSaid : Prop := topVeiledRow.holds Tryz.pinned (OpenSpec.ofChange topVeiledSpec)

/-- ITS FALSE NEIGHBOUR: 'it returns false'. Refute it at one input. -/
def topVeiledWrong : ChangeSpec := { name := "topVeiled", fn := fun _ => fun
  | [d1, d2, d3] => { results := [.lit (.bool false)], args := [d1, d2, d3] }
  | _ => none }
def TopVeiledWrongFalsely : Prop := topVeiledRow.holds Tryz.pinned (OpenSpec.ofChange topVeiledWrong)

/-- 'veiltop.TopAlone': WHATEVER THE INPUT: true; the input reads as it did. -/
def topAloneSpec : ChangeSpec := { name := "topAlone", fn := fun _ => fun
  | [d1, d2, d3] => { results := [.lit (.bool true)], args := [d1, d2, d3] }
  | _ => none }
def topAloneRow : OpenClaim := { program := "ythllnfkddiaokaagreat", sum := "f5d3fb6e817074f5846430141270cc05268d4f70691dc2eb19d045745e76aafe", func := "veil/veiltop.TopAlone", spec := "topAlone", inPlace := ["slices.overlaps[veil/api.Write]"], unfollowed := true, recurses := true, apart := false }
def TopAloneSaid : Prop := topAloneRow.holds Tryz.pinned (OpenSpec.ofChange topAloneSpec)

/-- ITS FALSE NEIGHBOUR: 'it returns false'. Refute it at one input. -/
def topAloneWrong : ChangeSpec := { name := "topAlone", fn := fun _ => fun
  | [d1, d2, d3] => { results := [.lit (.bool false)], args := [d1, d2, d3] }
  | _ => none }
def TopAloneWrongFalsely : Prop := topAloneRow.holds Tryz.pinned (OpenSpec.ofChange topAloneWrong)

/-- 'veiltop.TopAgain': WHATEVER THE INPUT: true; the input reads as it did. -/
def topAgainSpec : ChangeSpec := { name := "topAgain", fn := fun _ => fun
  | [d1, d2] => { results := [.lit (.bool true)], args := [d1, d2] }
  | _ => none }
def topAgainRow : OpenClaim := { program := "ythllnfkddiaokaagreat", sum := "f5d3fb6e817074f5846430141270cc05268d4f70691dc2eb19d045745e76aafe", func := "veil/veiltop.TopAgain", spec := "topAgain", inPlace := ["slices.overlaps[veil/api.Write]"], unfollowed := true, recurses := true, apart := false }
def TopAgainSaid : Prop := topAgainRow.holds Tryz.pinned (OpenSpec.ofChange topAgainSpec)

/-- ITS FALSE NEIGHBOUR: 'it returns false'. Refute it at one input. -/
def topAgainWrong : ChangeSpec := { name := "topAgain", fn := fun _ => fun
  | [d1, d2] => { results := [.lit (.bool false)], args := [d1, d2] }
  | _ => none }
def TopAgainWrongFalsely : Prop := topAgainRow.holds Tryz.pinned (OpenSpec.ofChange topAgainWrong)

/-- 'veiltop.TopPrograms': WHATEVER THE INPUT: true; the input reads as it did. -/
def topProgramsSpec : ChangeSpec := { name := "topPrograms", fn := fun _ => fun
  | [d1, d2] => { results := [.lit (.bool true)], args := [d1, d2] }
  | _ => none }
def topProgramsRow : OpenClaim := { program := "ythllnfkddiaokaagreat", sum := "f5d3fb6e817074f5846430141270cc05268d4f70691dc2eb19d045745e76aafe", func := "veil/veiltop.TopPrograms", spec := "topPrograms", inPlace := ["slices.overlaps[veil/api.Write]"], unfollowed := true, recurses := true, apart := false }
def TopProgramsSaid : Prop := topProgramsRow.holds Tryz.pinned (OpenSpec.ofChange topProgramsSpec)

/-- ITS FALSE NEIGHBOUR: 'it returns false'. Refute it at one input. -/
def topProgramsWrong : ChangeSpec := { name := "topPrograms", fn := fun _ => fun
  | [d1, d2] => { results := [.lit (.bool false)], args := [d1, d2] }
  | _ => none }
def TopProgramsWrongFalsely : Prop := topProgramsRow.holds Tryz.pinned (OpenSpec.ofChange topProgramsWrong)

/- THE SECOND FORM. 'bulk': how many values and letters a reading holds, each counted each time it is reached (what is shared counts as often as it is met; a slice's spare places count too). A statement '..UptoSaid' is the law's where the arguments, and the package variables that the reading takes, are together of bulk at most 1048576: NARROWER than '..Said'. Prove '..Said' where nothing that the law and all that it calls make is longer than what came in: it says more and counts as full. Else prove '..UptoSaid'. A law counts once. -/
mutual
def uptoBulk {H : Type} : DataW H → Nat
  | .lit (.string bytes) => bytes.length + 1
  | .lit _ => 1
  | .nil => 1
  | .ptr d => uptoBulk d + 1
  | .slice elems spare => uptoBulkAll elems + uptoBulkAll spare + 1
  | .agg parts => uptoBulkAll parts + 1
  | .iface _ d => uptoBulk d + 1
  | .map entries => uptoBulkEntries entries + 1
  | .held _ => 1
def uptoBulkAll {H : Type} : List (DataW H) → Nat
  | [] => 0
  | d :: r => uptoBulk d + uptoBulkAll r
def uptoBulkEntries {H : Type} : List (Lit × DataW H) → Nat
  | [] => 0
  | x :: r => uptoBulkEntry x + uptoBulkEntries r
def uptoBulkEntry {H : Type} : Lit × DataW H → Nat
  | (.string bytes, d) => bytes.length + uptoBulk d + 1
  | (_, d) => uptoBulk d + 1
 end
def uptoSmall : (H : Type) → List (DataW H) → Bool := fun _ ds => decide (uptoBulkAll ds ≤ 1048576)
def OpenSpec.upto (s : _root_.Go.ChangeSpec) : _root_.Go.OpenSpec := { _root_.Go.OpenSpec.ofChange s with cond := some uptoSmall }

/-- 'veiltop.TopSerial', WHERE WHAT IT READS IS OF BULK AT MOST 1048576: true; the input reads as it did. -/
def topSerialUptoRow : OpenClaim := { program := "ythllnfkddiaokaagreat", sum := "f5d3fb6e817074f5846430141270cc05268d4f70691dc2eb19d045745e76aafe", func := "veil/veiltop.TopSerial", spec := "topSerial", inPlace := ["slices.overlaps[veil/api.Write]"], unfollowed := true, recurses := true, apart := false, narrowed := true }
def TopSerialUptoSaid : Prop := topSerialUptoRow.holds Tryz.pinned (OpenSpec.upto topSerialSpec)

/-- 'veiltop.TopHalfway', WHERE WHAT IT READS IS OF BULK AT MOST 1048576: true; the input reads as it did. -/
def topHalfwayUptoRow : OpenClaim := { program := "ythllnfkddiaokaagreat", sum := "f5d3fb6e817074f5846430141270cc05268d4f70691dc2eb19d045745e76aafe", func := "veil/veiltop.TopHalfway", spec := "topHalfway", inPlace := ["slices.overlaps[veil/api.Write]"], unfollowed := true, recurses := true, apart := false, narrowed := true }
def TopHalfwayUptoSaid : Prop := topHalfwayUptoRow.holds Tryz.pinned (OpenSpec.upto topHalfwaySpec)

/-- 'veiltop.TopWoken', WHERE WHAT IT READS IS OF BULK AT MOST 1048576: true; the input reads as it did. -/
def topWokenUptoRow : OpenClaim := { program := "ythllnfkddiaokaagreat", sum := "f5d3fb6e817074f5846430141270cc05268d4f70691dc2eb19d045745e76aafe", func := "veil/veiltop.TopWoken", spec := "topWoken", inPlace := ["slices.overlaps[veil/api.Write]"], unfollowed := true, recurses := true, apart := false, narrowed := true }
def TopWokenUptoSaid : Prop := topWokenUptoRow.holds Tryz.pinned (OpenSpec.upto topWokenSpec)

/-- 'veiltop.TopOn', WHERE WHAT IT READS IS OF BULK AT MOST 1048576: true; the input reads as it did. -/
def topOnUptoRow : OpenClaim := { program := "ythllnfkddiaokaagreat", sum := "f5d3fb6e817074f5846430141270cc05268d4f70691dc2eb19d045745e76aafe", func := "veil/veiltop.TopOn", spec := "topOn", inPlace := ["slices.overlaps[veil/api.Write]"], unfollowed := true, recurses := true, apart := false, narrowed := true }
def TopOnUptoSaid : Prop := topOnUptoRow.holds Tryz.pinned (OpenSpec.upto topOnSpec)

/-- 'veiltop.TopVersions', WHERE WHAT IT READS IS OF BULK AT MOST 1048576: true; the input reads as it did. -/
def topVersionsUptoRow : OpenClaim := { program := "ythllnfkddiaokaagreat", sum := "f5d3fb6e817074f5846430141270cc05268d4f70691dc2eb19d045745e76aafe", func := "veil/veiltop.TopVersions", spec := "topVersions", inPlace := ["slices.overlaps[veil/api.Write]"], unfollowed := true, recurses := true, apart := false, narrowed := true }
def TopVersionsUptoSaid : Prop := topVersionsUptoRow.holds Tryz.pinned (OpenSpec.upto topVersionsSpec)

/-- 'veiltop.TopTraces', WHERE WHAT IT READS IS OF BULK AT MOST 1048576: true; the input reads as it did. -/
def topTracesUptoRow : OpenClaim := { program := "ythllnfkddiaokaagreat", sum := "f5d3fb6e817074f5846430141270cc05268d4f70691dc2eb19d045745e76aafe", func := "veil/veiltop.TopTraces", spec := "topTraces", inPlace := ["slices.overlaps[veil/api.Write]"], unfollowed := true, recurses := true, apart := false, narrowed := true }
def TopTracesUptoSaid : Prop := topTracesUptoRow.holds Tryz.pinned (OpenSpec.upto topTracesSpec)

/-- 'veiltop.TopHigh', WHERE WHAT IT READS IS OF BULK AT MOST 1048576: true; the input reads as it did. -/
def topHighUptoRow : OpenClaim := { program := "ythllnfkddiaokaagreat", sum := "f5d3fb6e817074f5846430141270cc05268d4f70691dc2eb19d045745e76aafe", func := "veil/veiltop.TopHigh", spec := "topHigh", inPlace := ["slices.overlaps[veil/api.Write]"], unfollowed := true, recurses := true, apart := false, narrowed := true }
def TopHighUptoSaid : Prop := topHighUptoRow.holds Tryz.pinned (OpenSpec.upto topHighSpec)

/-- 'veiltop.TopValues', WHERE WHAT IT READS IS OF BULK AT MOST 1048576: true; the input reads as it did. -/
def topValuesUptoRow : OpenClaim := { program := "ythllnfkddiaokaagreat", sum := "f5d3fb6e817074f5846430141270cc05268d4f70691dc2eb19d045745e76aafe", func := "veil/veiltop.TopValues", spec := "topValues", inPlace := ["slices.overlaps[veil/api.Write]"], unfollowed := true, recurses := true, apart := false, narrowed := true }
def TopValuesUptoSaid : Prop := topValuesUptoRow.holds Tryz.pinned (OpenSpec.upto topValuesSpec)

/-- 'veiltop.TopVeiled', WHERE WHAT IT READS IS OF BULK AT MOST 1048576: true; the input reads as it did. -/
def topVeiledUptoRow : OpenClaim := { program := "ythllnfkddiaokaagreat", sum := "f5d3fb6e817074f5846430141270cc05268d4f70691dc2eb19d045745e76aafe", func := "veil/veiltop.TopVeiled", spec := "topVeiled", inPlace := ["slices.overlaps[veil/api.Write]"], unfollowed := true, recurses := true, apart := false, narrowed := true }
def TopVeiledUptoSaid : Prop := topVeiledUptoRow.holds Tryz.pinned (OpenSpec.upto topVeiledSpec)

/-- 'veiltop.TopAlone', WHERE WHAT IT READS IS OF BULK AT MOST 1048576: true; the input reads as it did. -/
def topAloneUptoRow : OpenClaim := { program := "ythllnfkddiaokaagreat", sum := "f5d3fb6e817074f5846430141270cc05268d4f70691dc2eb19d045745e76aafe", func := "veil/veiltop.TopAlone", spec := "topAlone", inPlace := ["slices.overlaps[veil/api.Write]"], unfollowed := true, recurses := true, apart := false, narrowed := true }
def TopAloneUptoSaid : Prop := topAloneUptoRow.holds Tryz.pinned (OpenSpec.upto topAloneSpec)

/-- 'veiltop.TopAgain', WHERE WHAT IT READS IS OF BULK AT MOST 1048576: true; the input reads as it did. -/
def topAgainUptoRow : OpenClaim := { program := "ythllnfkddiaokaagreat", sum := "f5d3fb6e817074f5846430141270cc05268d4f70691dc2eb19d045745e76aafe", func := "veil/veiltop.TopAgain", spec := "topAgain", inPlace := ["slices.overlaps[veil/api.Write]"], unfollowed := true, recurses := true, apart := false, narrowed := true }
def TopAgainUptoSaid : Prop := topAgainUptoRow.holds Tryz.pinned (OpenSpec.upto topAgainSpec)

/-- 'veiltop.TopPrograms', WHERE WHAT IT READS IS OF BULK AT MOST 1048576: true; the input reads as it did. -/
def topProgramsUptoRow : OpenClaim := { program := "ythllnfkddiaokaagreat", sum := "f5d3fb6e817074f5846430141270cc05268d4f70691dc2eb19d045745e76aafe", func := "veil/veiltop.TopPrograms", spec := "topPrograms", inPlace := ["slices.overlaps[veil/api.Write]"], unfollowed := true, recurses := true, apart := false, narrowed := true }
def TopProgramsUptoSaid : Prop := topProgramsUptoRow.holds Tryz.pinned (OpenSpec.upto topProgramsSpec)

end Rows
end Go.Proofs.YthllnfkddiaokaaGreat
