/-
  No cell of these rows narrows 'for every input' (looked for: loops, veiled, ifaces, maps, wideKeys, modest, calm, conditions, laid).
  DERIVED. THE GIVEN ROWS OF THIS SEAT. 12 by the template 'for every input the law returns true; each argument reads behind the call as it read before'; 0 by the template 'total and deterministic' (their statements: YtapgmjgledahiaaGreatTotals.lean).
  GIVEN WITH THE SEED: the statements are not yours to turn. If you find one false, say at which input.
  Laid BY PROGRAM, IN A SANDBOX (cutbox-rows.mjs): the forced cells as the released guide's own fill.sh prints them over the translation c4c5c8e86dc12c10… (all of the seat's roots in one cut). By AI agents, Wed Nov 11 2026. No macro, syntax, notation, axiom, sorry.
-/
import Derived.Test.YtapgmjgledahiaaGreatChecked
import GoSem.Claim
import GoSem.ClaimJoined
import GoSem.ClaimMapViews
import Derived.JoinedTies
import Derived.KernelRfl
namespace Go.Proofs.YtapgmjgledahiaaGreat
/- THE CELL 'sum', in the pinned program and in every row, IS THE sha256 OF THE DUMP (.gsa) THAT YtapgmjgledahiaaGreatProg.lean LOADS. Nothing in Lean hashes anything: it is a label: what it is worth is what the hold of that sum in a sandbox is worth. -/
noncomputable def Tryz.pinned : Pinned := { name := "ytapgmjgledahiaagreat", sum := "c4c5c8e86dc12c106b778be9c215a579479e808608a349c4587b7cdc7011a813", checked := Tryz.checked }
namespace Rows
def none {H : Type} : Left H := { results := [], args := [] }

/-- 'veillaw22.Parks': WHATEVER THE INPUT: true; the input reads as it did. -/
def parksSpec : ChangeSpec := { name := "parks", fn := fun _ => fun
  | [d1, d2] => { results := [.lit (.bool true)], args := [d1, d2] }
  | _ => none }
def parksRow : OpenClaim := { program := "ytapgmjgledahiaagreat", sum := "c4c5c8e86dc12c106b778be9c215a579479e808608a349c4587b7cdc7011a813", func := "veil/veillaw22.Parks", spec := "parks", unfollowed := true, recurses := true, apart := false }
def ParksSaid : Prop := parksRow.holds Tryz.pinned (OpenSpec.ofChange parksSpec)

/-- ITS FALSE NEIGHBOUR: 'it returns false'. Refute it at one input. -/
def parksWrong : ChangeSpec := { name := "parks", fn := fun _ => fun
  | [d1, d2] => { results := [.lit (.bool false)], args := [d1, d2] }
  | _ => none }
def ParksWrongFalsely : Prop := parksRow.holds Tryz.pinned (OpenSpec.ofChange parksWrong)

/-- 'veillaw22.ParkWakes': WHATEVER THE INPUT: true; the input reads as it did. -/
def parkWakesSpec : ChangeSpec := { name := "parkWakes", fn := fun _ => fun
  | [d1, d2] => { results := [.lit (.bool true)], args := [d1, d2] }
  | _ => none }
def parkWakesRow : OpenClaim := { program := "ytapgmjgledahiaagreat", sum := "c4c5c8e86dc12c106b778be9c215a579479e808608a349c4587b7cdc7011a813", func := "veil/veillaw22.ParkWakes", spec := "parkWakes", unfollowed := true, recurses := true, apart := false }
def ParkWakesSaid : Prop := parkWakesRow.holds Tryz.pinned (OpenSpec.ofChange parkWakesSpec)

/-- ITS FALSE NEIGHBOUR: 'it returns false'. Refute it at one input. -/
def parkWakesWrong : ChangeSpec := { name := "parkWakes", fn := fun _ => fun
  | [d1, d2] => { results := [.lit (.bool false)], args := [d1, d2] }
  | _ => none }
def ParkWakesWrongFalsely : Prop := parkWakesRow.holds Tryz.pinned (OpenSpec.ofChange parkWakesWrong)

/-- 'veillaw22.ParkForms': WHATEVER THE INPUT: true; the input reads as it did. -/
def parkFormsSpec : ChangeSpec := { name := "parkForms", fn := fun _ => fun
  | [d1, d2] => { results := [.lit (.bool true)], args := [d1, d2] }
  | _ => none }
def parkFormsRow : OpenClaim := { program := "ytapgmjgledahiaagreat", sum := "c4c5c8e86dc12c106b778be9c215a579479e808608a349c4587b7cdc7011a813", func := "veil/veillaw22.ParkForms", spec := "parkForms", unfollowed := true, recurses := true, apart := false }
def ParkFormsSaid : Prop := parkFormsRow.holds Tryz.pinned (OpenSpec.ofChange parkFormsSpec)

/-- ITS FALSE NEIGHBOUR: 'it returns false'. Refute it at one input. -/
def parkFormsWrong : ChangeSpec := { name := "parkForms", fn := fun _ => fun
  | [d1, d2] => { results := [.lit (.bool false)], args := [d1, d2] }
  | _ => none }
def ParkFormsWrongFalsely : Prop := parkFormsRow.holds Tryz.pinned (OpenSpec.ofChange parkFormsWrong)

/-- 'veillaw22.ParkWaits': WHATEVER THE INPUT: true; the input reads as it did. -/
def parkWaitsSpec : ChangeSpec := { name := "parkWaits", fn := fun _ => fun
  | [d1, d2, d3, d4] => { results := [.lit (.bool true)], args := [d1, d2, d3, d4] }
  | _ => none }
def parkWaitsRow : OpenClaim := { program := "ytapgmjgledahiaagreat", sum := "c4c5c8e86dc12c106b778be9c215a579479e808608a349c4587b7cdc7011a813", func := "veil/veillaw22.ParkWaits", spec := "parkWaits", unfollowed := true, recurses := true, apart := false }
def ParkWaitsSaid : Prop := parkWaitsRow.holds Tryz.pinned (OpenSpec.ofChange parkWaitsSpec)

/-- ITS FALSE NEIGHBOUR: 'it returns false'. Refute it at one input. -/
def parkWaitsWrong : ChangeSpec := { name := "parkWaits", fn := fun _ => fun
  | [d1, d2, d3, d4] => { results := [.lit (.bool false)], args := [d1, d2, d3, d4] }
  | _ => none }
def ParkWaitsWrongFalsely : Prop := parkWaitsRow.holds Tryz.pinned (OpenSpec.ofChange parkWaitsWrong)

/-- 'veillaw22.ParkKeeps': WHATEVER THE INPUT: true; the input reads as it did. -/
def parkKeepsSpec : ChangeSpec := { name := "parkKeeps", fn := fun _ => fun
  | [d] => { results := [.lit (.bool true)], args := [d] }
  | _ => none }
def parkKeepsRow : OpenClaim := { program := "ytapgmjgledahiaagreat", sum := "c4c5c8e86dc12c106b778be9c215a579479e808608a349c4587b7cdc7011a813", func := "veil/veillaw22.ParkKeeps", spec := "parkKeeps", unfollowed := true, recurses := true, apart := false }
def ParkKeepsSaid : Prop := parkKeepsRow.holds Tryz.pinned (OpenSpec.ofChange parkKeepsSpec)

/-- ITS FALSE NEIGHBOUR: 'it returns false'. Refute it at one input. -/
def parkKeepsWrong : ChangeSpec := { name := "parkKeeps", fn := fun _ => fun
  | [d] => { results := [.lit (.bool false)], args := [d] }
  | _ => none }
def ParkKeepsWrongFalsely : Prop := parkKeepsRow.holds Tryz.pinned (OpenSpec.ofChange parkKeepsWrong)

/-- 'veillaw22.ParkAlone': WHATEVER THE INPUT: true; the input reads as it did. -/
def parkAloneSpec : ChangeSpec := { name := "parkAlone", fn := fun _ => fun
  | [d] => { results := [.lit (.bool true)], args := [d] }
  | _ => none }
def parkAloneRow : OpenClaim := { program := "ytapgmjgledahiaagreat", sum := "c4c5c8e86dc12c106b778be9c215a579479e808608a349c4587b7cdc7011a813", func := "veil/veillaw22.ParkAlone", spec := "parkAlone", unfollowed := true, recurses := true, apart := false }
def ParkAloneSaid : Prop := parkAloneRow.holds Tryz.pinned (OpenSpec.ofChange parkAloneSpec)

/-- ITS FALSE NEIGHBOUR: 'it returns false'. Refute it at one input. -/
def parkAloneWrong : ChangeSpec := { name := "parkAlone", fn := fun _ => fun
  | [d] => { results := [.lit (.bool false)], args := [d] }
  | _ => none }
def ParkAloneWrongFalsely : Prop := parkAloneRow.holds Tryz.pinned (OpenSpec.ofChange parkAloneWrong)

/-- 'veillaw15.Fetches': WHATEVER THE INPUT: true; the input reads as it did. -/
def fetchesSpec : ChangeSpec := { name := "fetches", fn := fun _ => fun
  | [d1, d2] => { results := [.lit (.bool true)], args := [d1, d2] }
  | _ => none }
def fetchesRow : OpenClaim := { program := "ytapgmjgledahiaagreat", sum := "c4c5c8e86dc12c106b778be9c215a579479e808608a349c4587b7cdc7011a813", func := "veil/veillaw15.Fetches", spec := "fetches", unfollowed := true, recurses := true, apart := false }
def FetchesSaid : Prop := fetchesRow.holds Tryz.pinned (OpenSpec.ofChange fetchesSpec)

/-- ITS FALSE NEIGHBOUR: 'it returns false'. Refute it at one input. -/
def fetchesWrong : ChangeSpec := { name := "fetches", fn := fun _ => fun
  | [d1, d2] => { results := [.lit (.bool false)], args := [d1, d2] }
  | _ => none }
def FetchesWrongFalsely : Prop := fetchesRow.holds Tryz.pinned (OpenSpec.ofChange fetchesWrong)

/-- 'veillaw15.FetchOne': WHATEVER THE INPUT: true; the input reads as it did. -/
def fetchOneSpec : ChangeSpec := { name := "fetchOne", fn := fun _ => fun
  | [d1, d2] => { results := [.lit (.bool true)], args := [d1, d2] }
  | _ => none }
def fetchOneRow : OpenClaim := { program := "ytapgmjgledahiaagreat", sum := "c4c5c8e86dc12c106b778be9c215a579479e808608a349c4587b7cdc7011a813", func := "veil/veillaw15.FetchOne", spec := "fetchOne", unfollowed := true, recurses := true, apart := false }
def FetchOneSaid : Prop := fetchOneRow.holds Tryz.pinned (OpenSpec.ofChange fetchOneSpec)

/-- ITS FALSE NEIGHBOUR: 'it returns false'. Refute it at one input. -/
def fetchOneWrong : ChangeSpec := { name := "fetchOne", fn := fun _ => fun
  | [d1, d2] => { results := [.lit (.bool false)], args := [d1, d2] }
  | _ => none }
def FetchOneWrongFalsely : Prop := fetchOneRow.holds Tryz.pinned (OpenSpec.ofChange fetchOneWrong)

/-- 'veillaw15.FetchOwn': WHATEVER THE INPUT: true; the input reads as it did. -/
def fetchOwnSpec : ChangeSpec := { name := "fetchOwn", fn := fun _ => fun
  | [d1, d2] => { results := [.lit (.bool true)], args := [d1, d2] }
  | _ => none }
def fetchOwnRow : OpenClaim := { program := "ytapgmjgledahiaagreat", sum := "c4c5c8e86dc12c106b778be9c215a579479e808608a349c4587b7cdc7011a813", func := "veil/veillaw15.FetchOwn", spec := "fetchOwn", unfollowed := true, recurses := true, apart := false }
def FetchOwnSaid : Prop := fetchOwnRow.holds Tryz.pinned (OpenSpec.ofChange fetchOwnSpec)

/-- ITS FALSE NEIGHBOUR: 'it returns false'. Refute it at one input. -/
def fetchOwnWrong : ChangeSpec := { name := "fetchOwn", fn := fun _ => fun
  | [d1, d2] => { results := [.lit (.bool false)], args := [d1, d2] }
  | _ => none }
def FetchOwnWrongFalsely : Prop := fetchOwnRow.holds Tryz.pinned (OpenSpec.ofChange fetchOwnWrong)

/-- 'veillaw15.FetchStale': WHATEVER THE INPUT: true; the input reads as it did. -/
def fetchStaleSpec : ChangeSpec := { name := "fetchStale", fn := fun _ => fun
  | [d1, d2] => { results := [.lit (.bool true)], args := [d1, d2] }
  | _ => none }
def fetchStaleRow : OpenClaim := { program := "ytapgmjgledahiaagreat", sum := "c4c5c8e86dc12c106b778be9c215a579479e808608a349c4587b7cdc7011a813", func := "veil/veillaw15.FetchStale", spec := "fetchStale", unfollowed := true, recurses := true, apart := false }
def FetchStaleSaid : Prop := fetchStaleRow.holds Tryz.pinned (OpenSpec.ofChange fetchStaleSpec)

/-- ITS FALSE NEIGHBOUR: 'it returns false'. Refute it at one input. -/
def fetchStaleWrong : ChangeSpec := { name := "fetchStale", fn := fun _ => fun
  | [d1, d2] => { results := [.lit (.bool false)], args := [d1, d2] }
  | _ => none }
def FetchStaleWrongFalsely : Prop := fetchStaleRow.holds Tryz.pinned (OpenSpec.ofChange fetchStaleWrong)

/-- 'veillaw15.FetchForms': WHATEVER THE INPUT: true; the input reads as it did. -/
def fetchFormsSpec : ChangeSpec := { name := "fetchForms", fn := fun _ => fun
  | [d1, d2] => { results := [.lit (.bool true)], args := [d1, d2] }
  | _ => none }
def fetchFormsRow : OpenClaim := { program := "ytapgmjgledahiaagreat", sum := "c4c5c8e86dc12c106b778be9c215a579479e808608a349c4587b7cdc7011a813", func := "veil/veillaw15.FetchForms", spec := "fetchForms", unfollowed := true, recurses := true, apart := false }
def FetchFormsSaid : Prop := fetchFormsRow.holds Tryz.pinned (OpenSpec.ofChange fetchFormsSpec)

/-- ITS FALSE NEIGHBOUR: 'it returns false'. Refute it at one input. -/
def fetchFormsWrong : ChangeSpec := { name := "fetchForms", fn := fun _ => fun
  | [d1, d2] => { results := [.lit (.bool false)], args := [d1, d2] }
  | _ => none }
def FetchFormsWrongFalsely : Prop := fetchFormsRow.holds Tryz.pinned (OpenSpec.ofChange fetchFormsWrong)

/-- 'veillaw15.FetchTwice': WHATEVER THE INPUT: true; the input reads as it did. -/
def fetchTwiceSpec : ChangeSpec := { name := "fetchTwice", fn := fun _ => fun
  | [d] => { results := [.lit (.bool true)], args := [d] }
  | _ => none }
def fetchTwiceRow : OpenClaim := { program := "ytapgmjgledahiaagreat", sum := "c4c5c8e86dc12c106b778be9c215a579479e808608a349c4587b7cdc7011a813", func := "veil/veillaw15.FetchTwice", spec := "fetchTwice", unfollowed := true, recurses := true, apart := false }
def FetchTwiceSaid : Prop := fetchTwiceRow.holds Tryz.pinned (OpenSpec.ofChange fetchTwiceSpec)

/-- ITS FALSE NEIGHBOUR: 'it returns false'. Refute it at one input. -/
def fetchTwiceWrong : ChangeSpec := { name := "fetchTwice", fn := fun _ => fun
  | [d] => { results := [.lit (.bool false)], args := [d] }
  | _ => none }
def FetchTwiceWrongFalsely : Prop := fetchTwiceRow.holds Tryz.pinned (OpenSpec.ofChange fetchTwiceWrong)

/- THE SECOND FORM. 'bulk': how many values and letters a reading holds, each counted each time it is reached (what is shared counts as often as it is met; a slice's spare places count too). A statement '..UptoSaid' is the law's where the arguments, and the package variables that the reading takes, are together of bulk at most 1048576: NARROWER than '..Said'. Prove '..Said' where nothing that the law and all that it calls make is longer than what came in: it says more and counts as full. Else prove '..UptoSaid'. A law counts once. -/
mutual
def uptoBulk {H : Type} : DataW H → Nat
  | .lit (.string bytes) => bytes.length + 1
  | .lit _ => 1
  | .nil => 1
  | .ptr d => uptoBulk d + 1
  | .slice elems spare => uptoBulkAll elems + uptoBulkAll spare + 1
  | .agg parts => uptoBulkAll parts + 1
  | .iface _ d => uptoBulk d + 1
  | .map entries => uptoBulkEntries entries + 1
  | .held _ => 1
def uptoBulkAll {H : Type} : List (DataW H) → Nat
  | [] => 0
  | d :: r => uptoBulk d + uptoBulkAll r
def uptoBulkEntries {H : Type} : List (Lit × DataW H) → Nat
  | [] => 0
  | x :: r => uptoBulkEntry x + uptoBulkEntries r
def uptoBulkEntry {H : Type} : Lit × DataW H → Nat
  | (.string bytes, d) => bytes.length + uptoBulk d + 1
  | (_, d) => uptoBulk d + 1
 end
def uptoSmall : (H : Type) → List (DataW H) → Bool := fun _ ds => decide (uptoBulkAll ds ≤ 1048576)
def OpenSpec.upto (s : _root_.Go.ChangeSpec) : _root_.Go.OpenSpec := { _root_.Go.OpenSpec.ofChange s with cond := some uptoSmall }

/-- 'veillaw22.Parks', WHERE WHAT IT READS IS OF BULK AT MOST 1048576: true; the input reads as it did. -/
def parksUptoRow : OpenClaim := { program := "ytapgmjgledahiaagreat", sum := "c4c5c8e86dc12c106b778be9c215a579479e808608a349c4587b7cdc7011a813", func := "veil/veillaw22.Parks", spec := "parks", unfollowed := true, recurses := true, apart := false, narrowed := true }
def ParksUptoSaid : Prop := parksUptoRow.holds Tryz.pinned (OpenSpec.upto parksSpec)

/-- 'veillaw22.ParkWakes', WHERE WHAT IT READS IS OF BULK AT MOST 1048576: true; the input reads as it did. -/
def parkWakesUptoRow : OpenClaim := { program := "ytapgmjgledahiaagreat", sum := "c4c5c8e86dc12c106b778be9c215a579479e808608a349c4587b7cdc7011a813", func := "veil/veillaw22.ParkWakes", spec := "parkWakes", unfollowed := true, recurses := true, apart := false, narrowed := true }
def ParkWakesUptoSaid : Prop := parkWakesUptoRow.holds Tryz.pinned (OpenSpec.upto parkWakesSpec)

/-- 'veillaw22.ParkForms', WHERE WHAT IT READS IS OF BULK AT MOST 1048576: true; the input reads as it did. -/
def parkFormsUptoRow : OpenClaim := { program := "ytapgmjgledahiaagreat", sum := "c4c5c8e86dc12c106b778be9c215a579479e808608a349c4587b7cdc7011a813", func := "veil/veillaw22.ParkForms", spec := "parkForms", unfollowed := true, recurses := true, apart := false, narrowed := true }
def ParkFormsUptoSaid : Prop := parkFormsUptoRow.holds Tryz.pinned (OpenSpec.upto parkFormsSpec)

/-- 'veillaw22.ParkWaits', WHERE WHAT IT READS IS OF BULK AT MOST 1048576: true; the input reads as it did. -/
def parkWaitsUptoRow : OpenClaim := { program := "ytapgmjgledahiaagreat", sum := "c4c5c8e86dc12c106b778be9c215a579479e808608a349c4587b7cdc7011a813", func := "veil/veillaw22.ParkWaits", spec := "parkWaits", unfollowed := true, recurses := true, apart := false, narrowed := true }
def ParkWaitsUptoSaid : Prop := parkWaitsUptoRow.holds Tryz.pinned (OpenSpec.upto parkWaitsSpec)

/-- 'veillaw22.ParkKeeps', WHERE WHAT IT READS IS OF BULK AT MOST 1048576: true; the input reads as it did. -/
def parkKeepsUptoRow : OpenClaim := { program := "ytapgmjgledahiaagreat", sum := "c4c5c8e86dc12c106b778be9c215a579479e808608a349c4587b7cdc7011a813", func := "veil/veillaw22.ParkKeeps", spec := "parkKeeps", unfollowed := true, recurses := true, apart := false, narrowed := true }
def ParkKeepsUptoSaid : Prop := parkKeepsUptoRow.holds Tryz.pinned (OpenSpec.upto parkKeepsSpec)

/-- 'veillaw22.ParkAlone', WHERE WHAT IT READS IS OF BULK AT MOST 1048576: true; the input reads as it did. -/
def parkAloneUptoRow : OpenClaim := { program := "ytapgmjgledahiaagreat", sum := "c4c5c8e86dc12c106b778be9c215a579479e808608a349c4587b7cdc7011a813", func := "veil/veillaw22.ParkAlone", spec := "parkAlone", unfollowed := true, recurses := true, apart := false, narrowed := true }
def ParkAloneUptoSaid : Prop := parkAloneUptoRow.holds Tryz.pinned (OpenSpec.upto parkAloneSpec)

/-- 'veillaw15.Fetches', WHERE WHAT IT READS IS OF BULK AT MOST 1048576: true; the input reads as it did. -/
def fetchesUptoRow : OpenClaim := { program := "ytapgmjgledahiaagreat", sum := "c4c5c8e86dc12c106b778be9c215a579479e808608a349c4587b7cdc7011a813", func := "veil/veillaw15.Fetches", spec := "fetches", unfollowed := true, recurses := true, apart := false, narrowed := true }
def FetchesUptoSaid : Prop := fetchesUptoRow.holds Tryz.pinned (OpenSpec.upto fetchesSpec)

/-- 'veillaw15.FetchOne', WHERE WHAT IT READS IS OF BULK AT MOST 1048576: true; the input reads as it did. -/
def fetchOneUptoRow : OpenClaim := { program := "ytapgmjgledahiaagreat", sum := "c4c5c8e86dc12c106b778be9c215a579479e808608a349c4587b7cdc7011a813", func := "veil/veillaw15.FetchOne", spec := "fetchOne", unfollowed := true, recurses := true, apart := false, narrowed := true }
def FetchOneUptoSaid : Prop := fetchOneUptoRow.holds Tryz.pinned (OpenSpec.upto fetchOneSpec)

/-- 'veillaw15.FetchOwn', WHERE WHAT IT READS IS OF BULK AT MOST 1048576: true; the input reads as it did. -/
def fetchOwnUptoRow : OpenClaim := { program := "ytapgmjgledahiaagreat", sum := "c4c5c8e86dc12c106b778be9c215a579479e808608a349c4587b7cdc7011a813", func := "veil/veillaw15.FetchOwn", spec := "fetchOwn", unfollowed := true, recurses := true, apart := false, narrowed := true }
def FetchOwnUptoSaid : Prop := fetchOwnUptoRow.holds Tryz.pinned (OpenSpec.upto fetchOwnSpec)

/-- 'veillaw15.FetchStale', WHERE WHAT IT READS IS OF BULK AT MOST 1048576: true; the input reads as it did. -/
def fetchStaleUptoRow : OpenClaim := { program := "ytapgmjgledahiaagreat", sum := "c4c5c8e86dc12c106b778be9c215a579479e808608a349c4587b7cdc7011a813", func := "veil/veillaw15.FetchStale", spec := "fetchStale", unfollowed := true, recurses := true, apart := false, narrowed := true }
def FetchStaleUptoSaid : Prop := fetchStaleUptoRow.holds Tryz.pinned (OpenSpec.upto fetchStaleSpec)

/-- 'veillaw15.FetchForms', WHERE WHAT IT READS IS OF BULK AT MOST 1048576: true; the input reads as it did. -/
def fetchFormsUptoRow : OpenClaim := { program := "ytapgmjgledahiaagreat", sum := "c4c5c8e86dc12c106b778be9c215a579479e808608a349c4587b7cdc7011a813", func := "veil/veillaw15.FetchForms", spec := "fetchForms", unfollowed := true, recurses := true, apart := false, narrowed := true }
def FetchFormsUptoSaid : Prop := fetchFormsUptoRow.holds Tryz.pinned (OpenSpec.upto fetchFormsSpec)

/-- 'veillaw15.FetchTwice', WHERE WHAT IT READS IS OF BULK AT MOST 1048576: true; the input reads as it did. -/
def fetchTwiceUptoRow : OpenClaim := { program := "ytapgmjgledahiaagreat", sum := "c4c5c8e86dc12c106b778be9c215a579479e808608a349c4587b7cdc7011a813", func := "veil/veillaw15.FetchTwice", spec := "fetchTwice", unfollowed := true, recurses := true, apart := false, narrowed := true }
def FetchTwiceUptoSaid : Prop := fetchTwiceUptoRow.holds Tryz.pinned (OpenSpec.upto fetchTwiceSpec)

end Rows
end Go.Proofs.YtapgmjgledahiaaGreat
