/-
  No cell of these rows narrows 'for every input' (looked for: loops, veiled, ifaces, maps, wideKeys, modest, calm, conditions, laid).
  DERIVED. THE GIVEN ROWS OF THIS SEAT. 4 by the template 'for every input the law returns true; each argument reads behind the call as it read before'; 0 by the template 'total and deterministic' (their statements: YtkbdjbmalpkkfaaTotals.lean).
  GIVEN WITH THE SEED: the statements are not yours to turn. If you find one false, say at which input.
  Laid BY PROGRAM, IN A SANDBOX (cutbox-rows.mjs): the forced cells as the released guide's own fill.sh prints them over the translation 02892ede359d9d25… (all of the seat's roots in one cut). By AI agents, Wed Nov 11 2026. No macro, syntax, notation, axiom, sorry.
-/
import Derived.Test.YtkbdjbmalpkkfaaChecked
import GoSem.Claim
import GoSem.ClaimJoined
import GoSem.ClaimMapViews
import Derived.JoinedTies
import Derived.KernelRfl
namespace Go.Proofs.Ytkbdjbmalpkkfaa
/- THE CELL 'sum', in the pinned program and in every row, IS THE sha256 OF THE DUMP (.gsa) THAT YtkbdjbmalpkkfaaProg.lean LOADS. Nothing in Lean hashes anything: it is a label: what it is worth is what the hold of that sum in a sandbox is worth. -/
noncomputable def Try.pinned : Pinned := { name := "ytkbdjbmalpkkfaa", sum := "02892ede359d9d25f1f1456b77b49efb77187ba0fb1e47abfc1a8124350d8793", checked := Try.checked }
namespace Rows
def none {H : Type} : Left H := { results := [], args := [] }

/-- 'laws.FnPairsOfWalks': WHATEVER THE INPUT: true; the input reads as it did. -/
def fnPairsOfWalksSpec : ChangeSpec := { name := "fnPairsOfWalks", fn := fun _ => fun
  | [d1, d2] => { results := [.lit (.bool true)], args := [d1, d2] }
  | _ => none }
def fnPairsOfWalksRow : OpenClaim := { program := "ytkbdjbmalpkkfaa", sum := "02892ede359d9d25f1f1456b77b49efb77187ba0fb1e47abfc1a8124350d8793", func := "loop.example/g01115/laws.FnPairsOfWalks", spec := "fnPairsOfWalks", unfollowed := true, recurses := true, apart := false }
def FnPairsOfWalksSaid : Prop := fnPairsOfWalksRow.holds Try.pinned (OpenSpec.ofChange fnPairsOfWalksSpec)

/-- ITS FALSE NEIGHBOUR: 'it returns false'. Refute it at one input. -/
def fnPairsOfWalksWrong : ChangeSpec := { name := "fnPairsOfWalks", fn := fun _ => fun
  | [d1, d2] => { results := [.lit (.bool false)], args := [d1, d2] }
  | _ => none }
def FnPairsOfWalksWrongFalsely : Prop := fnPairsOfWalksRow.holds Try.pinned (OpenSpec.ofChange fnPairsOfWalksWrong)

/-- 'laws.FnAreaAndPairsAlike': WHATEVER THE INPUT: true; the input reads as it did. -/
def fnAreaAndPairsAlikeSpec : ChangeSpec := { name := "fnAreaAndPairsAlike", fn := fun _ => fun
  | [d1, d2] => { results := [.lit (.bool true)], args := [d1, d2] }
  | _ => none }
def fnAreaAndPairsAlikeRow : OpenClaim := { program := "ytkbdjbmalpkkfaa", sum := "02892ede359d9d25f1f1456b77b49efb77187ba0fb1e47abfc1a8124350d8793", func := "loop.example/g01115/laws.FnAreaAndPairsAlike", spec := "fnAreaAndPairsAlike", unfollowed := true, recurses := true, apart := false }
def FnAreaAndPairsAlikeSaid : Prop := fnAreaAndPairsAlikeRow.holds Try.pinned (OpenSpec.ofChange fnAreaAndPairsAlikeSpec)

/-- ITS FALSE NEIGHBOUR: 'it returns false'. Refute it at one input. -/
def fnAreaAndPairsAlikeWrong : ChangeSpec := { name := "fnAreaAndPairsAlike", fn := fun _ => fun
  | [d1, d2] => { results := [.lit (.bool false)], args := [d1, d2] }
  | _ => none }
def FnAreaAndPairsAlikeWrongFalsely : Prop := fnAreaAndPairsAlikeRow.holds Try.pinned (OpenSpec.ofChange fnAreaAndPairsAlikeWrong)

/-- 'laws.FnParkingIsWalks': WHATEVER THE INPUT: true; the input reads as it did. -/
def fnParkingIsWalksSpec : ChangeSpec := { name := "fnParkingIsWalks", fn := fun _ => fun
  | [d1, d2] => { results := [.lit (.bool true)], args := [d1, d2] }
  | _ => none }
def fnParkingIsWalksRow : OpenClaim := { program := "ytkbdjbmalpkkfaa", sum := "02892ede359d9d25f1f1456b77b49efb77187ba0fb1e47abfc1a8124350d8793", func := "loop.example/g01115/laws.FnParkingIsWalks", spec := "fnParkingIsWalks", unfollowed := true, recurses := true, apart := false }
def FnParkingIsWalksSaid : Prop := fnParkingIsWalksRow.holds Try.pinned (OpenSpec.ofChange fnParkingIsWalksSpec)

/-- ITS FALSE NEIGHBOUR: 'it returns false'. Refute it at one input. -/
def fnParkingIsWalksWrong : ChangeSpec := { name := "fnParkingIsWalks", fn := fun _ => fun
  | [d1, d2] => { results := [.lit (.bool false)], args := [d1, d2] }
  | _ => none }
def FnParkingIsWalksWrongFalsely : Prop := fnParkingIsWalksRow.holds Try.pinned (OpenSpec.ofChange fnParkingIsWalksWrong)

/-- 'laws.FnTreesListed': WHATEVER THE INPUT: true; the input reads as it did. -/
def fnTreesListedSpec : ChangeSpec := { name := "fnTreesListed", fn := fun _ => fun
  | [d1, d2] => { results := [.lit (.bool true)], args := [d1, d2] }
  | _ => none }
def fnTreesListedRow : OpenClaim := { program := "ytkbdjbmalpkkfaa", sum := "02892ede359d9d25f1f1456b77b49efb77187ba0fb1e47abfc1a8124350d8793", func := "loop.example/g01115/laws.FnTreesListed", spec := "fnTreesListed", unfollowed := true, recurses := true, apart := false }
def FnTreesListedSaid : Prop := fnTreesListedRow.holds Try.pinned (OpenSpec.ofChange fnTreesListedSpec)

/-- ITS FALSE NEIGHBOUR: 'it returns false'. Refute it at one input. -/
def fnTreesListedWrong : ChangeSpec := { name := "fnTreesListed", fn := fun _ => fun
  | [d1, d2] => { results := [.lit (.bool false)], args := [d1, d2] }
  | _ => none }
def FnTreesListedWrongFalsely : Prop := fnTreesListedRow.holds Try.pinned (OpenSpec.ofChange fnTreesListedWrong)

/- THE SECOND FORM. 'bulk': how many values and letters a reading holds, each counted each time it is reached (what is shared counts as often as it is met; a slice's spare places count too). A statement '..UptoSaid' is the law's where the arguments, and the package variables that the reading takes, are together of bulk at most 1048576: NARROWER than '..Said'. Prove '..Said' where nothing that the law and all that it calls make is longer than what came in: it says more and counts as full. Else prove '..UptoSaid'. A law counts once. -/
mutual
def uptoBulk {H : Type} : DataW H → Nat
  | .lit (.string bytes) => bytes.length + 1
  | .lit _ => 1
  | .nil => 1
  | .ptr d => uptoBulk d + 1
  | .slice elems spare => uptoBulkAll elems + uptoBulkAll spare + 1
  | .agg parts => uptoBulkAll parts + 1
  | .iface _ d => uptoBulk d + 1
  | .map entries => uptoBulkEntries entries + 1
  | .held _ => 1
def uptoBulkAll {H : Type} : List (DataW H) → Nat
  | [] => 0
  | d :: r => uptoBulk d + uptoBulkAll r
def uptoBulkEntries {H : Type} : List (Lit × DataW H) → Nat
  | [] => 0
  | x :: r => uptoBulkEntry x + uptoBulkEntries r
def uptoBulkEntry {H : Type} : Lit × DataW H → Nat
  | (.string bytes, d) => bytes.length + uptoBulk d + 1
  | (_, d) => uptoBulk d + 1
 end
def uptoSmall : (H : Type) → List (DataW H) → Bool := fun _ ds => decide (uptoBulkAll ds ≤ 1048576)
def OpenSpec.upto (s : _root_.Go.ChangeSpec) : _root_.Go.OpenSpec := { _root_.Go.OpenSpec.ofChange s with cond := some uptoSmall }

/-- 'laws.FnPairsOfWalks', WHERE WHAT IT READS IS OF BULK AT MOST 1048576: true; the input reads as it did. -/
def fnPairsOfWalksUptoRow : OpenClaim := { program := "ytkbdjbmalpkkfaa", sum := "02892ede359d9d25f1f1456b77b49efb77187ba0fb1e47abfc1a8124350d8793", func := "loop.example/g01115/laws.FnPairsOfWalks", spec := "fnPairsOfWalks", unfollowed := true, recurses := true, apart := false, narrowed := true }
def FnPairsOfWalksUptoSaid : Prop := fnPairsOfWalksUptoRow.holds Try.pinned (OpenSpec.upto fnPairsOfWalksSpec)

/-- 'laws.FnAreaAndPairsAlike', WHERE WHAT IT READS IS OF BULK AT MOST 1048576: true; the input reads as it did. -/
def fnAreaAndPairsAlikeUptoRow : OpenClaim := { program := "ytkbdjbmalpkkfaa", sum := "02892ede359d9d25f1f1456b77b49efb77187ba0fb1e47abfc1a8124350d8793", func := "loop.example/g01115/laws.FnAreaAndPairsAlike", spec := "fnAreaAndPairsAlike", unfollowed := true, recurses := true, apart := false, narrowed := true }
def FnAreaAndPairsAlikeUptoSaid : Prop := fnAreaAndPairsAlikeUptoRow.holds Try.pinned (OpenSpec.upto fnAreaAndPairsAlikeSpec)

/-- 'laws.FnParkingIsWalks', WHERE WHAT IT READS IS OF BULK AT MOST 1048576: true; the input reads as it did. -/
def fnParkingIsWalksUptoRow : OpenClaim := { program := "ytkbdjbmalpkkfaa", sum := "02892ede359d9d25f1f1456b77b49efb77187ba0fb1e47abfc1a8124350d8793", func := "loop.example/g01115/laws.FnParkingIsWalks", spec := "fnParkingIsWalks", unfollowed := true, recurses := true, apart := false, narrowed := true }
def FnParkingIsWalksUptoSaid : Prop := fnParkingIsWalksUptoRow.holds Try.pinned (OpenSpec.upto fnParkingIsWalksSpec)

/-- 'laws.FnTreesListed', WHERE WHAT IT READS IS OF BULK AT MOST 1048576: true; the input reads as it did. -/
def fnTreesListedUptoRow : OpenClaim := { program := "ytkbdjbmalpkkfaa", sum := "02892ede359d9d25f1f1456b77b49efb77187ba0fb1e47abfc1a8124350d8793", func := "loop.example/g01115/laws.FnTreesListed", spec := "fnTreesListed", unfollowed := true, recurses := true, apart := false, narrowed := true }
def FnTreesListedUptoSaid : Prop := fnTreesListedUptoRow.holds Try.pinned (OpenSpec.upto fnTreesListedSpec)

end Rows
end Go.Proofs.Ytkbdjbmalpkkfaa
