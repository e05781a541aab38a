/-
  No cell of these rows narrows 'for every input' (looked for: loops, veiled, ifaces, maps, wideKeys, modest, calm, conditions, laid).
  DERIVED. THE GIVEN ROWS OF THIS SEAT. 9 by the template 'for every input the law returns true; each argument reads behind the call as it read before'; 0 by the template 'total and deterministic' (their statements: YtjllmdplakoanaaGreatTotals.lean).
  GIVEN WITH THE SEED: the statements are not yours to turn. If you find one false, say at which input.
  Laid BY PROGRAM, IN A SANDBOX (cutbox-rows.mjs): the forced cells as the released guide's own fill.sh prints them over the translation dc505194600bede4… (all of the seat's roots in one cut). By AI agents, Wed Nov 11 2026. No macro, syntax, notation, axiom, sorry.
-/
import Derived.Test.YtjllmdplakoanaaGreatChecked
import GoSem.Claim
import GoSem.ClaimJoined
import GoSem.ClaimMapViews
import Derived.JoinedTies
import Derived.KernelRfl
namespace Go.Proofs.YtjllmdplakoanaaGreat
/- THE CELL 'sum', in the pinned program and in every row, IS THE sha256 OF THE DUMP (.gsa) THAT YtjllmdplakoanaaGreatProg.lean LOADS. Nothing in Lean hashes anything: it is a label: what it is worth is what the hold of that sum in a sandbox is worth. -/
noncomputable def Tryz.pinned : Pinned := { name := "ytjllmdplakoanaagreat", sum := "dc505194600bede4d8ecdb74ccd4ecb398380f5130693cc9f424d71da7cddfdf", checked := Tryz.checked }
namespace Rows
def none {H : Type} : Left H := { results := [], args := [] }

/-- 'veillaw14.Drifts': WHATEVER THE INPUT: true; the input reads as it did. -/
def driftsSpec : ChangeSpec := { name := "drifts", fn := fun _ => fun
  | [d1, d2] => { results := [.lit (.bool true)], args := [d1, d2] }
  | _ => none }
def driftsRow : OpenClaim := { program := "ytjllmdplakoanaagreat", sum := "dc505194600bede4d8ecdb74ccd4ecb398380f5130693cc9f424d71da7cddfdf", func := "veil/veillaw14.Drifts", spec := "drifts", unfollowed := true, recurses := true, apart := false }
def DriftsSaid : Prop := driftsRow.holds Tryz.pinned (OpenSpec.ofChange driftsSpec)

/-- ITS FALSE NEIGHBOUR: 'it returns false'. Refute it at one input. -/
def driftsWrong : ChangeSpec := { name := "drifts", fn := fun _ => fun
  | [d1, d2] => { results := [.lit (.bool false)], args := [d1, d2] }
  | _ => none }
def DriftsWrongFalsely : Prop := driftsRow.holds Tryz.pinned (OpenSpec.ofChange driftsWrong)

/-- 'veillaw14.DriftRises': WHATEVER THE INPUT: true; the input reads as it did. -/
def driftRisesSpec : ChangeSpec := { name := "driftRises", fn := fun _ => fun
  | [d1, d2] => { results := [.lit (.bool true)], args := [d1, d2] }
  | _ => none }
def driftRisesRow : OpenClaim := { program := "ytjllmdplakoanaagreat", sum := "dc505194600bede4d8ecdb74ccd4ecb398380f5130693cc9f424d71da7cddfdf", func := "veil/veillaw14.DriftRises", spec := "driftRises", unfollowed := true, recurses := true, apart := false }
def DriftRisesSaid : Prop := driftRisesRow.holds Tryz.pinned (OpenSpec.ofChange driftRisesSpec)

/-- ITS FALSE NEIGHBOUR: 'it returns false'. Refute it at one input. -/
def driftRisesWrong : ChangeSpec := { name := "driftRises", fn := fun _ => fun
  | [d1, d2] => { results := [.lit (.bool false)], args := [d1, d2] }
  | _ => none }
def DriftRisesWrongFalsely : Prop := driftRisesRow.holds Tryz.pinned (OpenSpec.ofChange driftRisesWrong)

/-- 'veillaw14.DriftTable': WHATEVER THE INPUT: true; the input reads as it did. -/
def driftTableSpec : ChangeSpec := { name := "driftTable", fn := fun _ => fun
  | [d] => { results := [.lit (.bool true)], args := [d] }
  | _ => none }
def driftTableRow : OpenClaim := { program := "ytjllmdplakoanaagreat", sum := "dc505194600bede4d8ecdb74ccd4ecb398380f5130693cc9f424d71da7cddfdf", func := "veil/veillaw14.DriftTable", spec := "driftTable", unfollowed := true, recurses := true, apart := false }
def DriftTableSaid : Prop := driftTableRow.holds Tryz.pinned (OpenSpec.ofChange driftTableSpec)

/-- ITS FALSE NEIGHBOUR: 'it returns false'. Refute it at one input. -/
def driftTableWrong : ChangeSpec := { name := "driftTable", fn := fun _ => fun
  | [d] => { results := [.lit (.bool false)], args := [d] }
  | _ => none }
def DriftTableWrongFalsely : Prop := driftTableRow.holds Tryz.pinned (OpenSpec.ofChange driftTableWrong)

/-- 'veillaw14.DriftForms': WHATEVER THE INPUT: true; the input reads as it did. -/
def driftFormsSpec : ChangeSpec := { name := "driftForms", fn := fun _ => fun
  | [d1, d2] => { results := [.lit (.bool true)], args := [d1, d2] }
  | _ => none }
def driftFormsRow : OpenClaim := { program := "ytjllmdplakoanaagreat", sum := "dc505194600bede4d8ecdb74ccd4ecb398380f5130693cc9f424d71da7cddfdf", func := "veil/veillaw14.DriftForms", spec := "driftForms", unfollowed := true, recurses := true, apart := false }
def DriftFormsSaid : Prop := driftFormsRow.holds Tryz.pinned (OpenSpec.ofChange driftFormsSpec)

/-- ITS FALSE NEIGHBOUR: 'it returns false'. Refute it at one input. -/
def driftFormsWrong : ChangeSpec := { name := "driftForms", fn := fun _ => fun
  | [d1, d2] => { results := [.lit (.bool false)], args := [d1, d2] }
  | _ => none }
def DriftFormsWrongFalsely : Prop := driftFormsRow.holds Tryz.pinned (OpenSpec.ofChange driftFormsWrong)

/-- 'veillaw14.DriftOnce': WHATEVER THE INPUT: true; the input reads as it did. -/
def driftOnceSpec : ChangeSpec := { name := "driftOnce", fn := fun _ => fun
  | [d] => { results := [.lit (.bool true)], args := [d] }
  | _ => none }
def driftOnceRow : OpenClaim := { program := "ytjllmdplakoanaagreat", sum := "dc505194600bede4d8ecdb74ccd4ecb398380f5130693cc9f424d71da7cddfdf", func := "veil/veillaw14.DriftOnce", spec := "driftOnce", unfollowed := true, recurses := true, apart := false }
def DriftOnceSaid : Prop := driftOnceRow.holds Tryz.pinned (OpenSpec.ofChange driftOnceSpec)

/-- ITS FALSE NEIGHBOUR: 'it returns false'. Refute it at one input. -/
def driftOnceWrong : ChangeSpec := { name := "driftOnce", fn := fun _ => fun
  | [d] => { results := [.lit (.bool false)], args := [d] }
  | _ => none }
def DriftOnceWrongFalsely : Prop := driftOnceRow.holds Tryz.pinned (OpenSpec.ofChange driftOnceWrong)

/-- 'veillaw20.Checks': WHATEVER THE INPUT: true; the input reads as it did. -/
def checksSpec : ChangeSpec := { name := "checks", fn := fun _ => fun
  | [d1, d2] => { results := [.lit (.bool true)], args := [d1, d2] }
  | _ => none }
def checksRow : OpenClaim := { program := "ytjllmdplakoanaagreat", sum := "dc505194600bede4d8ecdb74ccd4ecb398380f5130693cc9f424d71da7cddfdf", func := "veil/veillaw20.Checks", spec := "checks", unfollowed := true, recurses := true, apart := false }
def ChecksSaid : Prop := checksRow.holds Tryz.pinned (OpenSpec.ofChange checksSpec)

/-- ITS FALSE NEIGHBOUR: 'it returns false'. Refute it at one input. -/
def checksWrong : ChangeSpec := { name := "checks", fn := fun _ => fun
  | [d1, d2] => { results := [.lit (.bool false)], args := [d1, d2] }
  | _ => none }
def ChecksWrongFalsely : Prop := checksRow.holds Tryz.pinned (OpenSpec.ofChange checksWrong)

/-- 'veillaw20.CheckForms': WHATEVER THE INPUT: true; the input reads as it did. -/
def checkFormsSpec : ChangeSpec := { name := "checkForms", fn := fun _ => fun
  | [d1, d2] => { results := [.lit (.bool true)], args := [d1, d2] }
  | _ => none }
def checkFormsRow : OpenClaim := { program := "ytjllmdplakoanaagreat", sum := "dc505194600bede4d8ecdb74ccd4ecb398380f5130693cc9f424d71da7cddfdf", func := "veil/veillaw20.CheckForms", spec := "checkForms", unfollowed := true, recurses := true, apart := false }
def CheckFormsSaid : Prop := checkFormsRow.holds Tryz.pinned (OpenSpec.ofChange checkFormsSpec)

/-- ITS FALSE NEIGHBOUR: 'it returns false'. Refute it at one input. -/
def checkFormsWrong : ChangeSpec := { name := "checkForms", fn := fun _ => fun
  | [d1, d2] => { results := [.lit (.bool false)], args := [d1, d2] }
  | _ => none }
def CheckFormsWrongFalsely : Prop := checkFormsRow.holds Tryz.pinned (OpenSpec.ofChange checkFormsWrong)

/-- 'veillaw20.CheckGood': WHATEVER THE INPUT: true; the input reads as it did. -/
def checkGoodSpec : ChangeSpec := { name := "checkGood", fn := fun _ => fun
  | [d1, d2] => { results := [.lit (.bool true)], args := [d1, d2] }
  | _ => none }
def checkGoodRow : OpenClaim := { program := "ytjllmdplakoanaagreat", sum := "dc505194600bede4d8ecdb74ccd4ecb398380f5130693cc9f424d71da7cddfdf", func := "veil/veillaw20.CheckGood", spec := "checkGood", unfollowed := true, recurses := true, apart := false }
def CheckGoodSaid : Prop := checkGoodRow.holds Tryz.pinned (OpenSpec.ofChange checkGoodSpec)

/-- ITS FALSE NEIGHBOUR: 'it returns false'. Refute it at one input. -/
def checkGoodWrong : ChangeSpec := { name := "checkGood", fn := fun _ => fun
  | [d1, d2] => { results := [.lit (.bool false)], args := [d1, d2] }
  | _ => none }
def CheckGoodWrongFalsely : Prop := checkGoodRow.holds Tryz.pinned (OpenSpec.ofChange checkGoodWrong)

/-- 'veillaw20.CheckRace': WHATEVER THE INPUT: true; the input reads as it did. -/
def checkRaceSpec : ChangeSpec := { name := "checkRace", fn := fun _ => fun
  | [d] => { results := [.lit (.bool true)], args := [d] }
  | _ => none }
def checkRaceRow : OpenClaim := { program := "ytjllmdplakoanaagreat", sum := "dc505194600bede4d8ecdb74ccd4ecb398380f5130693cc9f424d71da7cddfdf", func := "veil/veillaw20.CheckRace", spec := "checkRace", unfollowed := true, recurses := true, apart := false }
def CheckRaceSaid : Prop := checkRaceRow.holds Tryz.pinned (OpenSpec.ofChange checkRaceSpec)

/-- ITS FALSE NEIGHBOUR: 'it returns false'. Refute it at one input. -/
def checkRaceWrong : ChangeSpec := { name := "checkRace", fn := fun _ => fun
  | [d] => { results := [.lit (.bool false)], args := [d] }
  | _ => none }
def CheckRaceWrongFalsely : Prop := checkRaceRow.holds Tryz.pinned (OpenSpec.ofChange checkRaceWrong)

/- THE SECOND FORM. 'bulk': how many values and letters a reading holds, each counted each time it is reached (what is shared counts as often as it is met; a slice's spare places count too). A statement '..UptoSaid' is the law's where the arguments, and the package variables that the reading takes, are together of bulk at most 1048576: NARROWER than '..Said'. Prove '..Said' where nothing that the law and all that it calls make is longer than what came in: it says more and counts as full. Else prove '..UptoSaid'. A law counts once. -/
mutual
def uptoBulk {H : Type} : DataW H → Nat
  | .lit (.string bytes) => bytes.length + 1
  | .lit _ => 1
  | .nil => 1
  | .ptr d => uptoBulk d + 1
  | .slice elems spare => uptoBulkAll elems + uptoBulkAll spare + 1
  | .agg parts => uptoBulkAll parts + 1
  | .iface _ d => uptoBulk d + 1
  | .map entries => uptoBulkEntries entries + 1
  | .held _ => 1
def uptoBulkAll {H : Type} : List (DataW H) → Nat
  | [] => 0
  | d :: r => uptoBulk d + uptoBulkAll r
def uptoBulkEntries {H : Type} : List (Lit × DataW H) → Nat
  | [] => 0
  | x :: r => uptoBulkEntry x + uptoBulkEntries r
def uptoBulkEntry {H : Type} : Lit × DataW H → Nat
  | (.string bytes, d) => bytes.length + uptoBulk d + 1
  | (_, d) => uptoBulk d + 1
 end
def uptoSmall : (H : Type) → List (DataW H) → Bool := fun _ ds => decide (uptoBulkAll ds ≤ 1048576)
def OpenSpec.upto (s : _root_.Go.ChangeSpec) : _root_.Go.OpenSpec := { _root_.Go.OpenSpec.ofChange s with cond := some uptoSmall }

/-- 'veillaw14.Drifts', WHERE WHAT IT READS IS OF BULK AT MOST 1048576: true; the input reads as it did. -/
def driftsUptoRow : OpenClaim := { program := "ytjllmdplakoanaagreat", sum := "dc505194600bede4d8ecdb74ccd4ecb398380f5130693cc9f424d71da7cddfdf", func := "veil/veillaw14.Drifts", spec := "drifts", unfollowed := true, recurses := true, apart := false, narrowed := true }
def DriftsUptoSaid : Prop := driftsUptoRow.holds Tryz.pinned (OpenSpec.upto driftsSpec)

/-- 'veillaw14.DriftRises', WHERE WHAT IT READS IS OF BULK AT MOST 1048576: true; the input reads as it did. -/
def driftRisesUptoRow : OpenClaim := { program := "ytjllmdplakoanaagreat", sum := "dc505194600bede4d8ecdb74ccd4ecb398380f5130693cc9f424d71da7cddfdf", func := "veil/veillaw14.DriftRises", spec := "driftRises", unfollowed := true, recurses := true, apart := false, narrowed := true }
def DriftRisesUptoSaid : Prop := driftRisesUptoRow.holds Tryz.pinned (OpenSpec.upto driftRisesSpec)

/-- 'veillaw14.DriftTable', WHERE WHAT IT READS IS OF BULK AT MOST 1048576: true; the input reads as it did. -/
def driftTableUptoRow : OpenClaim := { program := "ytjllmdplakoanaagreat", sum := "dc505194600bede4d8ecdb74ccd4ecb398380f5130693cc9f424d71da7cddfdf", func := "veil/veillaw14.DriftTable", spec := "driftTable", unfollowed := true, recurses := true, apart := false, narrowed := true }
def DriftTableUptoSaid : Prop := driftTableUptoRow.holds Tryz.pinned (OpenSpec.upto driftTableSpec)

/-- 'veillaw14.DriftForms', WHERE WHAT IT READS IS OF BULK AT MOST 1048576: true; the input reads as it did. -/
def driftFormsUptoRow : OpenClaim := { program := "ytjllmdplakoanaagreat", sum := "dc505194600bede4d8ecdb74ccd4ecb398380f5130693cc9f424d71da7cddfdf", func := "veil/veillaw14.DriftForms", spec := "driftForms", unfollowed := true, recurses := true, apart := false, narrowed := true }
def DriftFormsUptoSaid : Prop := driftFormsUptoRow.holds Tryz.pinned (OpenSpec.upto driftFormsSpec)

/-- 'veillaw14.DriftOnce', WHERE WHAT IT READS IS OF BULK AT MOST 1048576: true; the input reads as it did. -/
def driftOnceUptoRow : OpenClaim := { program := "ytjllmdplakoanaagreat", sum := "dc505194600bede4d8ecdb74ccd4ecb398380f5130693cc9f424d71da7cddfdf", func := "veil/veillaw14.DriftOnce", spec := "driftOnce", unfollowed := true, recurses := true, apart := false, narrowed := true }
def DriftOnceUptoSaid : Prop := driftOnceUptoRow.holds Tryz.pinned (OpenSpec.upto driftOnceSpec)

/-- 'veillaw20.Checks', WHERE WHAT IT READS IS OF BULK AT MOST 1048576: true; the input reads as it did. -/
def checksUptoRow : OpenClaim := { program := "ytjllmdplakoanaagreat", sum := "dc505194600bede4d8ecdb74ccd4ecb398380f5130693cc9f424d71da7cddfdf", func := "veil/veillaw20.Checks", spec := "checks", unfollowed := true, recurses := true, apart := false, narrowed := true }
def ChecksUptoSaid : Prop := checksUptoRow.holds Tryz.pinned (OpenSpec.upto checksSpec)

/-- 'veillaw20.CheckForms', WHERE WHAT IT READS IS OF BULK AT MOST 1048576: true; the input reads as it did. -/
def checkFormsUptoRow : OpenClaim := { program := "ytjllmdplakoanaagreat", sum := "dc505194600bede4d8ecdb74ccd4ecb398380f5130693cc9f424d71da7cddfdf", func := "veil/veillaw20.CheckForms", spec := "checkForms", unfollowed := true, recurses := true, apart := false, narrowed := true }
def CheckFormsUptoSaid : Prop := checkFormsUptoRow.holds Tryz.pinned (OpenSpec.upto checkFormsSpec)

/-- 'veillaw20.CheckGood', WHERE WHAT IT READS IS OF BULK AT MOST 1048576: true; the input reads as it did. -/
def checkGoodUptoRow : OpenClaim := { program := "ytjllmdplakoanaagreat", sum := "dc505194600bede4d8ecdb74ccd4ecb398380f5130693cc9f424d71da7cddfdf", func := "veil/veillaw20.CheckGood", spec := "checkGood", unfollowed := true, recurses := true, apart := false, narrowed := true }
def CheckGoodUptoSaid : Prop := checkGoodUptoRow.holds Tryz.pinned (OpenSpec.upto checkGoodSpec)

/-- 'veillaw20.CheckRace', WHERE WHAT IT READS IS OF BULK AT MOST 1048576: true; the input reads as it did. -/
def checkRaceUptoRow : OpenClaim := { program := "ytjllmdplakoanaagreat", sum := "dc505194600bede4d8ecdb74ccd4ecb398380f5130693cc9f424d71da7cddfdf", func := "veil/veillaw20.CheckRace", spec := "checkRace", unfollowed := true, recurses := true, apart := false, narrowed := true }
def CheckRaceUptoSaid : Prop := checkRaceUptoRow.holds Tryz.pinned (OpenSpec.upto checkRaceSpec)

end Rows
end Go.Proofs.YtjllmdplakoanaaGreat
