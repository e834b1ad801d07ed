/-
  No cell of these rows narrows 'for every input' (looked for: loops, veiled, ifaces, maps, wideKeys, modest, calm, conditions, laid).
  DERIVED. THE GIVEN ROWS OF THIS SEAT. 12 by the template 'for every input the law returns true; each argument reads behind the call as it read before'; 0 by the template 'total and deterministic' (their statements: YtclmhdoecbjppaaTotals.lean).
  GIVEN WITH THE SEED: the statements are not yours to turn. If you find one false, say at which input.
  Laid BY PROGRAM, IN A SANDBOX (cutbox-rows.mjs): the forced cells as the released guide's own fill.sh prints them over the translation e75d939b559311d9… (all of the seat's roots in one cut). By AI agents, Wed Nov 11 2026. No macro, syntax, notation, axiom, sorry.
-/
import Derived.Test.YtclmhdoecbjppaaChecked
import GoSem.Claim
import GoSem.ClaimJoined
import GoSem.ClaimMapViews
import Derived.JoinedTies
import Derived.KernelRfl
namespace Go.Proofs.Ytclmhdoecbjppaa
/- THE CELL 'sum', in the pinned program and in every row, IS THE sha256 OF THE DUMP (.gsa) THAT YtclmhdoecbjppaaProg.lean LOADS. Nothing in Lean hashes anything: it is a label: what it is worth is what the hold of that sum in a sandbox is worth. -/
noncomputable def Try.pinned : Pinned := { name := "ytclmhdoecbjppaa", sum := "e75d939b559311d9db1fb5b9435a0dedafd3a4712fd1e6aa4b8b5886c6f4837c", checked := Try.checked }
namespace Rows
def none {H : Type} : Left H := { results := [], args := [] }

/-- 'laws.FnExactTouchesOf': WHATEVER THE INPUT: true; the input reads as it did. -/
def fnExactTouchesOfSpec : ChangeSpec := { name := "fnExactTouchesOf", fn := fun _ => fun
  | [d] => { results := [.lit (.bool true)], args := [d] }
  | _ => none }
def fnExactTouchesOfRow : OpenClaim := { program := "ytclmhdoecbjppaa", sum := "e75d939b559311d9db1fb5b9435a0dedafd3a4712fd1e6aa4b8b5886c6f4837c", func := "loop.example/g01115/laws.FnExactTouchesOf", spec := "fnExactTouchesOf", unfollowed := true, recurses := true, apart := false }
def FnExactTouchesOfSaid : Prop := fnExactTouchesOfRow.holds Try.pinned (OpenSpec.ofChange fnExactTouchesOfSpec)

/-- ITS FALSE NEIGHBOUR: 'it returns false'. Refute it at one input. -/
def fnExactTouchesOfWrong : ChangeSpec := { name := "fnExactTouchesOf", fn := fun _ => fun
  | [d] => { results := [.lit (.bool false)], args := [d] }
  | _ => none }
def FnExactTouchesOfWrongFalsely : Prop := fnExactTouchesOfRow.holds Try.pinned (OpenSpec.ofChange fnExactTouchesOfWrong)

/-- 'laws.FnExactInversionPairs': WHATEVER THE INPUT: true; the input reads as it did. -/
def fnExactInversionPairsSpec : ChangeSpec := { name := "fnExactInversionPairs", fn := fun _ => fun
  | [d] => { results := [.lit (.bool true)], args := [d] }
  | _ => none }
def fnExactInversionPairsRow : OpenClaim := { program := "ytclmhdoecbjppaa", sum := "e75d939b559311d9db1fb5b9435a0dedafd3a4712fd1e6aa4b8b5886c6f4837c", func := "loop.example/g01115/laws.FnExactInversionPairs", spec := "fnExactInversionPairs", unfollowed := true, recurses := true, apart := false }
def FnExactInversionPairsSaid : Prop := fnExactInversionPairsRow.holds Try.pinned (OpenSpec.ofChange fnExactInversionPairsSpec)

/-- ITS FALSE NEIGHBOUR: 'it returns false'. Refute it at one input. -/
def fnExactInversionPairsWrong : ChangeSpec := { name := "fnExactInversionPairs", fn := fun _ => fun
  | [d] => { results := [.lit (.bool false)], args := [d] }
  | _ => none }
def FnExactInversionPairsWrongFalsely : Prop := fnExactInversionPairsRow.holds Try.pinned (OpenSpec.ofChange fnExactInversionPairsWrong)

/-- 'laws.FnExactReadingOf': WHATEVER THE INPUT: true; the input reads as it did. -/
def fnExactReadingOfSpec : ChangeSpec := { name := "fnExactReadingOf", fn := fun _ => fun
  | [d] => { results := [.lit (.bool true)], args := [d] }
  | _ => none }
def fnExactReadingOfRow : OpenClaim := { program := "ytclmhdoecbjppaa", sum := "e75d939b559311d9db1fb5b9435a0dedafd3a4712fd1e6aa4b8b5886c6f4837c", func := "loop.example/g01115/laws.FnExactReadingOf", spec := "fnExactReadingOf", unfollowed := true, recurses := true, apart := false }
def FnExactReadingOfSaid : Prop := fnExactReadingOfRow.holds Try.pinned (OpenSpec.ofChange fnExactReadingOfSpec)

/-- ITS FALSE NEIGHBOUR: 'it returns false'. Refute it at one input. -/
def fnExactReadingOfWrong : ChangeSpec := { name := "fnExactReadingOf", fn := fun _ => fun
  | [d] => { results := [.lit (.bool false)], args := [d] }
  | _ => none }
def FnExactReadingOfWrongFalsely : Prop := fnExactReadingOfRow.holds Try.pinned (OpenSpec.ofChange fnExactReadingOfWrong)

/-- 'laws.FnExactPairsOf': WHATEVER THE INPUT: true; the input reads as it did. -/
def fnExactPairsOfSpec : ChangeSpec := { name := "fnExactPairsOf", fn := fun _ => fun
  | [d] => { results := [.lit (.bool true)], args := [d] }
  | _ => none }
def fnExactPairsOfRow : OpenClaim := { program := "ytclmhdoecbjppaa", sum := "e75d939b559311d9db1fb5b9435a0dedafd3a4712fd1e6aa4b8b5886c6f4837c", func := "loop.example/g01115/laws.FnExactPairsOf", spec := "fnExactPairsOf", unfollowed := true, recurses := true, apart := false }
def FnExactPairsOfSaid : Prop := fnExactPairsOfRow.holds Try.pinned (OpenSpec.ofChange fnExactPairsOfSpec)

/-- ITS FALSE NEIGHBOUR: 'it returns false'. Refute it at one input. -/
def fnExactPairsOfWrong : ChangeSpec := { name := "fnExactPairsOf", fn := fun _ => fun
  | [d] => { results := [.lit (.bool false)], args := [d] }
  | _ => none }
def FnExactPairsOfWrongFalsely : Prop := fnExactPairsOfRow.holds Try.pinned (OpenSpec.ofChange fnExactPairsOfWrong)

/-- 'laws.FnExactCountByInversions': WHATEVER THE INPUT: true; the input reads as it did. -/
def fnExactCountByInversionsSpec : ChangeSpec := { name := "fnExactCountByInversions", fn := fun _ => fun
  | [d] => { results := [.lit (.bool true)], args := [d] }
  | _ => none }
def fnExactCountByInversionsRow : OpenClaim := { program := "ytclmhdoecbjppaa", sum := "e75d939b559311d9db1fb5b9435a0dedafd3a4712fd1e6aa4b8b5886c6f4837c", func := "loop.example/g01115/laws.FnExactCountByInversions", spec := "fnExactCountByInversions", unfollowed := true, recurses := true, apart := false }
def FnExactCountByInversionsSaid : Prop := fnExactCountByInversionsRow.holds Try.pinned (OpenSpec.ofChange fnExactCountByInversionsSpec)

/-- ITS FALSE NEIGHBOUR: 'it returns false'. Refute it at one input. -/
def fnExactCountByInversionsWrong : ChangeSpec := { name := "fnExactCountByInversions", fn := fun _ => fun
  | [d] => { results := [.lit (.bool false)], args := [d] }
  | _ => none }
def FnExactCountByInversionsWrongFalsely : Prop := fnExactCountByInversionsRow.holds Try.pinned (OpenSpec.ofChange fnExactCountByInversionsWrong)

/-- 'laws.FnParkingIsTrees': WHATEVER THE INPUT: true; the input reads as it did. -/
def fnParkingIsTreesSpec : ChangeSpec := { name := "fnParkingIsTrees", fn := fun _ => fun
  | [d1, d2] => { results := [.lit (.bool true)], args := [d1, d2] }
  | _ => none }
def fnParkingIsTreesRow : OpenClaim := { program := "ytclmhdoecbjppaa", sum := "e75d939b559311d9db1fb5b9435a0dedafd3a4712fd1e6aa4b8b5886c6f4837c", func := "loop.example/g01115/laws.FnParkingIsTrees", spec := "fnParkingIsTrees", unfollowed := true, recurses := true, apart := false }
def FnParkingIsTreesSaid : Prop := fnParkingIsTreesRow.holds Try.pinned (OpenSpec.ofChange fnParkingIsTreesSpec)

/-- ITS FALSE NEIGHBOUR: 'it returns false'. Refute it at one input. -/
def fnParkingIsTreesWrong : ChangeSpec := { name := "fnParkingIsTrees", fn := fun _ => fun
  | [d1, d2] => { results := [.lit (.bool false)], args := [d1, d2] }
  | _ => none }
def FnParkingIsTreesWrongFalsely : Prop := fnParkingIsTreesRow.holds Try.pinned (OpenSpec.ofChange fnParkingIsTreesWrong)

/-- 'laws.FnTreesAreWords': WHATEVER THE INPUT: true; the input reads as it did. -/
def fnTreesAreWordsSpec : ChangeSpec := { name := "fnTreesAreWords", fn := fun _ => fun
  | [d1, d2] => { results := [.lit (.bool true)], args := [d1, d2] }
  | _ => none }
def fnTreesAreWordsRow : OpenClaim := { program := "ytclmhdoecbjppaa", sum := "e75d939b559311d9db1fb5b9435a0dedafd3a4712fd1e6aa4b8b5886c6f4837c", func := "loop.example/g01115/laws.FnTreesAreWords", spec := "fnTreesAreWords", unfollowed := true, recurses := true, apart := false }
def FnTreesAreWordsSaid : Prop := fnTreesAreWordsRow.holds Try.pinned (OpenSpec.ofChange fnTreesAreWordsSpec)

/-- ITS FALSE NEIGHBOUR: 'it returns false'. Refute it at one input. -/
def fnTreesAreWordsWrong : ChangeSpec := { name := "fnTreesAreWords", fn := fun _ => fun
  | [d1, d2] => { results := [.lit (.bool false)], args := [d1, d2] }
  | _ => none }
def FnTreesAreWordsWrongFalsely : Prop := fnTreesAreWordsRow.holds Try.pinned (OpenSpec.ofChange fnTreesAreWordsWrong)

/-- 'laws.FnAreaAndPairsAlike': WHATEVER THE INPUT: true; the input reads as it did. -/
def fnAreaAndPairsAlikeSpec : ChangeSpec := { name := "fnAreaAndPairsAlike", fn := fun _ => fun
  | [d1, d2] => { results := [.lit (.bool true)], args := [d1, d2] }
  | _ => none }
def fnAreaAndPairsAlikeRow : OpenClaim := { program := "ytclmhdoecbjppaa", sum := "e75d939b559311d9db1fb5b9435a0dedafd3a4712fd1e6aa4b8b5886c6f4837c", func := "loop.example/g01115/laws.FnAreaAndPairsAlike", spec := "fnAreaAndPairsAlike", unfollowed := true, recurses := true, apart := false }
def FnAreaAndPairsAlikeSaid : Prop := fnAreaAndPairsAlikeRow.holds Try.pinned (OpenSpec.ofChange fnAreaAndPairsAlikeSpec)

/-- ITS FALSE NEIGHBOUR: 'it returns false'. Refute it at one input. -/
def fnAreaAndPairsAlikeWrong : ChangeSpec := { name := "fnAreaAndPairsAlike", fn := fun _ => fun
  | [d1, d2] => { results := [.lit (.bool false)], args := [d1, d2] }
  | _ => none }
def FnAreaAndPairsAlikeWrongFalsely : Prop := fnAreaAndPairsAlikeRow.holds Try.pinned (OpenSpec.ofChange fnAreaAndPairsAlikeWrong)

/-- 'laws.FnHeightsTurned': WHATEVER THE INPUT: true; the input reads as it did. -/
def fnHeightsTurnedSpec : ChangeSpec := { name := "fnHeightsTurned", fn := fun _ => fun
  | [d1, d2] => { results := [.lit (.bool true)], args := [d1, d2] }
  | _ => none }
def fnHeightsTurnedRow : OpenClaim := { program := "ytclmhdoecbjppaa", sum := "e75d939b559311d9db1fb5b9435a0dedafd3a4712fd1e6aa4b8b5886c6f4837c", func := "loop.example/g01115/laws.FnHeightsTurned", spec := "fnHeightsTurned", unfollowed := true, recurses := true, apart := false }
def FnHeightsTurnedSaid : Prop := fnHeightsTurnedRow.holds Try.pinned (OpenSpec.ofChange fnHeightsTurnedSpec)

/-- ITS FALSE NEIGHBOUR: 'it returns false'. Refute it at one input. -/
def fnHeightsTurnedWrong : ChangeSpec := { name := "fnHeightsTurned", fn := fun _ => fun
  | [d1, d2] => { results := [.lit (.bool false)], args := [d1, d2] }
  | _ => none }
def FnHeightsTurnedWrongFalsely : Prop := fnHeightsTurnedRow.holds Try.pinned (OpenSpec.ofChange fnHeightsTurnedWrong)

/-- 'laws.FnPairsOfWalks': WHATEVER THE INPUT: true; the input reads as it did. -/
def fnPairsOfWalksSpec : ChangeSpec := { name := "fnPairsOfWalks", fn := fun _ => fun
  | [d1, d2] => { results := [.lit (.bool true)], args := [d1, d2] }
  | _ => none }
def fnPairsOfWalksRow : OpenClaim := { program := "ytclmhdoecbjppaa", sum := "e75d939b559311d9db1fb5b9435a0dedafd3a4712fd1e6aa4b8b5886c6f4837c", func := "loop.example/g01115/laws.FnPairsOfWalks", spec := "fnPairsOfWalks", unfollowed := true, recurses := true, apart := false }
def FnPairsOfWalksSaid : Prop := fnPairsOfWalksRow.holds Try.pinned (OpenSpec.ofChange fnPairsOfWalksSpec)

/-- ITS FALSE NEIGHBOUR: 'it returns false'. Refute it at one input. -/
def fnPairsOfWalksWrong : ChangeSpec := { name := "fnPairsOfWalks", fn := fun _ => fun
  | [d1, d2] => { results := [.lit (.bool false)], args := [d1, d2] }
  | _ => none }
def FnPairsOfWalksWrongFalsely : Prop := fnPairsOfWalksRow.holds Try.pinned (OpenSpec.ofChange fnPairsOfWalksWrong)

/-- 'laws.FnTreesMeasured': WHATEVER THE INPUT: true; the input reads as it did. -/
def fnTreesMeasuredSpec : ChangeSpec := { name := "fnTreesMeasured", fn := fun _ => fun
  | [d1, d2] => { results := [.lit (.bool true)], args := [d1, d2] }
  | _ => none }
def fnTreesMeasuredRow : OpenClaim := { program := "ytclmhdoecbjppaa", sum := "e75d939b559311d9db1fb5b9435a0dedafd3a4712fd1e6aa4b8b5886c6f4837c", func := "loop.example/g01115/laws.FnTreesMeasured", spec := "fnTreesMeasured", unfollowed := true, recurses := true, apart := false }
def FnTreesMeasuredSaid : Prop := fnTreesMeasuredRow.holds Try.pinned (OpenSpec.ofChange fnTreesMeasuredSpec)

/-- ITS FALSE NEIGHBOUR: 'it returns false'. Refute it at one input. -/
def fnTreesMeasuredWrong : ChangeSpec := { name := "fnTreesMeasured", fn := fun _ => fun
  | [d1, d2] => { results := [.lit (.bool false)], args := [d1, d2] }
  | _ => none }
def FnTreesMeasuredWrongFalsely : Prop := fnTreesMeasuredRow.holds Try.pinned (OpenSpec.ofChange fnTreesMeasuredWrong)

/-- 'laws.FnParkingIsWalks': WHATEVER THE INPUT: true; the input reads as it did. -/
def fnParkingIsWalksSpec : ChangeSpec := { name := "fnParkingIsWalks", fn := fun _ => fun
  | [d1, d2] => { results := [.lit (.bool true)], args := [d1, d2] }
  | _ => none }
def fnParkingIsWalksRow : OpenClaim := { program := "ytclmhdoecbjppaa", sum := "e75d939b559311d9db1fb5b9435a0dedafd3a4712fd1e6aa4b8b5886c6f4837c", func := "loop.example/g01115/laws.FnParkingIsWalks", spec := "fnParkingIsWalks", unfollowed := true, recurses := true, apart := false }
def FnParkingIsWalksSaid : Prop := fnParkingIsWalksRow.holds Try.pinned (OpenSpec.ofChange fnParkingIsWalksSpec)

/-- ITS FALSE NEIGHBOUR: 'it returns false'. Refute it at one input. -/
def fnParkingIsWalksWrong : ChangeSpec := { name := "fnParkingIsWalks", fn := fun _ => fun
  | [d1, d2] => { results := [.lit (.bool false)], args := [d1, d2] }
  | _ => none }
def FnParkingIsWalksWrongFalsely : Prop := fnParkingIsWalksRow.holds Try.pinned (OpenSpec.ofChange fnParkingIsWalksWrong)

/- THE SECOND FORM. 'bulk': how many values and letters a reading holds, each counted each time it is reached (what is shared counts as often as it is met; a slice's spare places count too). A statement '..UptoSaid' is the law's where the arguments, and the package variables that the reading takes, are together of bulk at most 1048576: NARROWER than '..Said'. Prove '..Said' where nothing that the law and all that it calls make is longer than what came in: it says more and counts as full. Else prove '..UptoSaid'. A law counts once. -/
mutual
def uptoBulk {H : Type} : DataW H → Nat
  | .lit (.string bytes) => bytes.length + 1
  | .lit _ => 1
  | .nil => 1
  | .ptr d => uptoBulk d + 1
  | .slice elems spare => uptoBulkAll elems + uptoBulkAll spare + 1
  | .agg parts => uptoBulkAll parts + 1
  | .iface _ d => uptoBulk d + 1
  | .map entries => uptoBulkEntries entries + 1
  | .held _ => 1
def uptoBulkAll {H : Type} : List (DataW H) → Nat
  | [] => 0
  | d :: r => uptoBulk d + uptoBulkAll r
def uptoBulkEntries {H : Type} : List (Lit × DataW H) → Nat
  | [] => 0
  | x :: r => uptoBulkEntry x + uptoBulkEntries r
def uptoBulkEntry {H : Type} : Lit × DataW H → Nat
  | (.string bytes, d) => bytes.length + uptoBulk d + 1
  | (_, d) => uptoBulk d + 1
 end
def uptoSmall : (H : Type) → List (DataW H) → Bool := fun _ ds => decide (uptoBulkAll ds ≤ 1048576)
def OpenSpec.upto (s : _root_.Go.ChangeSpec) : _root_.Go.OpenSpec := { _root_.Go.OpenSpec.ofChange s with cond := some uptoSmall }

/-- 'laws.FnExactTouchesOf', WHERE WHAT IT READS IS OF BULK AT MOST 1048576: true; the input reads as it did. -/
def fnExactTouchesOfUptoRow : OpenClaim := { program := "ytclmhdoecbjppaa", sum := "e75d939b559311d9db1fb5b9435a0dedafd3a4712fd1e6aa4b8b5886c6f4837c", func := "loop.example/g01115/laws.FnExactTouchesOf", spec := "fnExactTouchesOf", unfollowed := true, recurses := true, apart := false, narrowed := true }
def FnExactTouchesOfUptoSaid : Prop := fnExactTouchesOfUptoRow.holds Try.pinned (OpenSpec.upto fnExactTouchesOfSpec)

/-- 'laws.FnExactInversionPairs', WHERE WHAT IT READS IS OF BULK AT MOST 1048576: true; the input reads as it did. -/
def fnExactInversionPairsUptoRow : OpenClaim := { program := "ytclmhdoecbjppaa", sum := "e75d939b559311d9db1fb5b9435a0dedafd3a4712fd1e6aa4b8b5886c6f4837c", func := "loop.example/g01115/laws.FnExactInversionPairs", spec := "fnExactInversionPairs", unfollowed := true, recurses := true, apart := false, narrowed := true }
def FnExactInversionPairsUptoSaid : Prop := fnExactInversionPairsUptoRow.holds Try.pinned (OpenSpec.upto fnExactInversionPairsSpec)

/-- 'laws.FnExactReadingOf', WHERE WHAT IT READS IS OF BULK AT MOST 1048576: true; the input reads as it did. -/
def fnExactReadingOfUptoRow : OpenClaim := { program := "ytclmhdoecbjppaa", sum := "e75d939b559311d9db1fb5b9435a0dedafd3a4712fd1e6aa4b8b5886c6f4837c", func := "loop.example/g01115/laws.FnExactReadingOf", spec := "fnExactReadingOf", unfollowed := true, recurses := true, apart := false, narrowed := true }
def FnExactReadingOfUptoSaid : Prop := fnExactReadingOfUptoRow.holds Try.pinned (OpenSpec.upto fnExactReadingOfSpec)

/-- 'laws.FnExactPairsOf', WHERE WHAT IT READS IS OF BULK AT MOST 1048576: true; the input reads as it did. -/
def fnExactPairsOfUptoRow : OpenClaim := { program := "ytclmhdoecbjppaa", sum := "e75d939b559311d9db1fb5b9435a0dedafd3a4712fd1e6aa4b8b5886c6f4837c", func := "loop.example/g01115/laws.FnExactPairsOf", spec := "fnExactPairsOf", unfollowed := true, recurses := true, apart := false, narrowed := true }
def FnExactPairsOfUptoSaid : Prop := fnExactPairsOfUptoRow.holds Try.pinned (OpenSpec.upto fnExactPairsOfSpec)

/-- 'laws.FnExactCountByInversions', WHERE WHAT IT READS IS OF BULK AT MOST 1048576: true; the input reads as it did. -/
def fnExactCountByInversionsUptoRow : OpenClaim := { program := "ytclmhdoecbjppaa", sum := "e75d939b559311d9db1fb5b9435a0dedafd3a4712fd1e6aa4b8b5886c6f4837c", func := "loop.example/g01115/laws.FnExactCountByInversions", spec := "fnExactCountByInversions", unfollowed := true, recurses := true, apart := false, narrowed := true }
def FnExactCountByInversionsUptoSaid : Prop := fnExactCountByInversionsUptoRow.holds Try.pinned (OpenSpec.upto fnExactCountByInversionsSpec)

/-- 'laws.FnParkingIsTrees', WHERE WHAT IT READS IS OF BULK AT MOST 1048576: true; the input reads as it did. -/
def fnParkingIsTreesUptoRow : OpenClaim := { program := "ytclmhdoecbjppaa", sum := "e75d939b559311d9db1fb5b9435a0dedafd3a4712fd1e6aa4b8b5886c6f4837c", func := "loop.example/g01115/laws.FnParkingIsTrees", spec := "fnParkingIsTrees", unfollowed := true, recurses := true, apart := false, narrowed := true }
def FnParkingIsTreesUptoSaid : Prop := fnParkingIsTreesUptoRow.holds Try.pinned (OpenSpec.upto fnParkingIsTreesSpec)

/-- 'laws.FnTreesAreWords', WHERE WHAT IT READS IS OF BULK AT MOST 1048576: true; the input reads as it did. -/
def fnTreesAreWordsUptoRow : OpenClaim := { program := "ytclmhdoecbjppaa", sum := "e75d939b559311d9db1fb5b9435a0dedafd3a4712fd1e6aa4b8b5886c6f4837c", func := "loop.example/g01115/laws.FnTreesAreWords", spec := "fnTreesAreWords", unfollowed := true, recurses := true, apart := false, narrowed := true }
def FnTreesAreWordsUptoSaid : Prop := fnTreesAreWordsUptoRow.holds Try.pinned (OpenSpec.upto fnTreesAreWordsSpec)

/-- 'laws.FnAreaAndPairsAlike', WHERE WHAT IT READS IS OF BULK AT MOST 1048576: true; the input reads as it did. -/
def fnAreaAndPairsAlikeUptoRow : OpenClaim := { program := "ytclmhdoecbjppaa", sum := "e75d939b559311d9db1fb5b9435a0dedafd3a4712fd1e6aa4b8b5886c6f4837c", func := "loop.example/g01115/laws.FnAreaAndPairsAlike", spec := "fnAreaAndPairsAlike", unfollowed := true, recurses := true, apart := false, narrowed := true }
def FnAreaAndPairsAlikeUptoSaid : Prop := fnAreaAndPairsAlikeUptoRow.holds Try.pinned (OpenSpec.upto fnAreaAndPairsAlikeSpec)

/-- 'laws.FnHeightsTurned', WHERE WHAT IT READS IS OF BULK AT MOST 1048576: true; the input reads as it did. -/
def fnHeightsTurnedUptoRow : OpenClaim := { program := "ytclmhdoecbjppaa", sum := "e75d939b559311d9db1fb5b9435a0dedafd3a4712fd1e6aa4b8b5886c6f4837c", func := "loop.example/g01115/laws.FnHeightsTurned", spec := "fnHeightsTurned", unfollowed := true, recurses := true, apart := false, narrowed := true }
def FnHeightsTurnedUptoSaid : Prop := fnHeightsTurnedUptoRow.holds Try.pinned (OpenSpec.upto fnHeightsTurnedSpec)

/-- 'laws.FnPairsOfWalks', WHERE WHAT IT READS IS OF BULK AT MOST 1048576: true; the input reads as it did. -/
def fnPairsOfWalksUptoRow : OpenClaim := { program := "ytclmhdoecbjppaa", sum := "e75d939b559311d9db1fb5b9435a0dedafd3a4712fd1e6aa4b8b5886c6f4837c", func := "loop.example/g01115/laws.FnPairsOfWalks", spec := "fnPairsOfWalks", unfollowed := true, recurses := true, apart := false, narrowed := true }
def FnPairsOfWalksUptoSaid : Prop := fnPairsOfWalksUptoRow.holds Try.pinned (OpenSpec.upto fnPairsOfWalksSpec)

/-- 'laws.FnTreesMeasured', WHERE WHAT IT READS IS OF BULK AT MOST 1048576: true; the input reads as it did. -/
def fnTreesMeasuredUptoRow : OpenClaim := { program := "ytclmhdoecbjppaa", sum := "e75d939b559311d9db1fb5b9435a0dedafd3a4712fd1e6aa4b8b5886c6f4837c", func := "loop.example/g01115/laws.FnTreesMeasured", spec := "fnTreesMeasured", unfollowed := true, recurses := true, apart := false, narrowed := true }
def FnTreesMeasuredUptoSaid : Prop := fnTreesMeasuredUptoRow.holds Try.pinned (OpenSpec.upto fnTreesMeasuredSpec)

/-- 'laws.FnParkingIsWalks', WHERE WHAT IT READS IS OF BULK AT MOST 1048576: true; the input reads as it did. -/
def fnParkingIsWalksUptoRow : OpenClaim := { program := "ytclmhdoecbjppaa", sum := "e75d939b559311d9db1fb5b9435a0dedafd3a4712fd1e6aa4b8b5886c6f4837c", func := "loop.example/g01115/laws.FnParkingIsWalks", spec := "fnParkingIsWalks", unfollowed := true, recurses := true, apart := false, narrowed := true }
def FnParkingIsWalksUptoSaid : Prop := fnParkingIsWalksUptoRow.holds Try.pinned (OpenSpec.upto fnParkingIsWalksSpec)

end Rows
end Go.Proofs.Ytclmhdoecbjppaa
