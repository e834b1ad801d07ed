/-
  No cell of these rows narrows 'for every input' (looked for: loops, veiled, ifaces, maps, wideKeys, modest, calm, conditions, laid).
  DERIVED. THE GIVEN ROWS OF THIS SEAT. 12 by the template 'for every input the law returns true; each argument reads behind the call as it read before'; 0 by the template 'total and deterministic' (their statements: YtmollfkakalagaaTotals.lean).
  GIVEN WITH THE SEED: the statements are not yours to turn. If you find one false, say at which input.
  Laid BY PROGRAM, IN A SANDBOX (cutbox-rows.mjs): the forced cells as the released guide's own fill.sh prints them over the translation 79a257d2749a456c… (all of the seat's roots in one cut). By AI agents, Wed Nov 11 2026. No macro, syntax, notation, axiom, sorry.
-/
import Derived.Test.YtmollfkakalagaaChecked
import GoSem.Claim
import GoSem.ClaimJoined
import GoSem.ClaimMapViews
import Derived.JoinedTies
import Derived.KernelRfl
namespace Go.Proofs.Ytmollfkakalagaa
/- THE CELL 'sum', in the pinned program and in every row, IS THE sha256 OF THE DUMP (.gsa) THAT YtmollfkakalagaaProg.lean LOADS. Nothing in Lean hashes anything: it is a label: what it is worth is what the hold of that sum in a sandbox is worth. -/
noncomputable def Try.pinned : Pinned := { name := "ytmollfkakalagaa", sum := "79a257d2749a456cf5bc1b754b2f07c560c773bdccaa64ffbe34f6c35c73a520", checked := Try.checked }
namespace Rows
def none {H : Type} : Left H := { results := [], args := [] }

/-- 'laws.FnExactTouchesOf': WHATEVER THE INPUT: true; the input reads as it did. -/
def fnExactTouchesOfSpec : ChangeSpec := { name := "fnExactTouchesOf", fn := fun _ => fun
  | [d] => { results := [.lit (.bool true)], args := [d] }
  | _ => none }
def fnExactTouchesOfRow : OpenClaim := { program := "ytmollfkakalagaa", sum := "79a257d2749a456cf5bc1b754b2f07c560c773bdccaa64ffbe34f6c35c73a520", func := "loop.example/g01115/laws.FnExactTouchesOf", spec := "fnExactTouchesOf", unfollowed := true, recurses := true, apart := false }
def FnExactTouchesOfSaid : Prop := fnExactTouchesOfRow.holds Try.pinned (OpenSpec.ofChange fnExactTouchesOfSpec)

/-- ITS FALSE NEIGHBOUR: 'it returns false'. Refute it at one input. -/
def fnExactTouchesOfWrong : ChangeSpec := { name := "fnExactTouchesOf", fn := fun _ => fun
  | [d] => { results := [.lit (.bool false)], args := [d] }
  | _ => none }
def FnExactTouchesOfWrongFalsely : Prop := fnExactTouchesOfRow.holds Try.pinned (OpenSpec.ofChange fnExactTouchesOfWrong)

/-- 'laws.FnExactTurnHeights': WHATEVER THE INPUT: true; the input reads as it did. -/
def fnExactTurnHeightsSpec : ChangeSpec := { name := "fnExactTurnHeights", fn := fun _ => fun
  | [d] => { results := [.lit (.bool true)], args := [d] }
  | _ => none }
def fnExactTurnHeightsRow : OpenClaim := { program := "ytmollfkakalagaa", sum := "79a257d2749a456cf5bc1b754b2f07c560c773bdccaa64ffbe34f6c35c73a520", func := "loop.example/g01115/laws.FnExactTurnHeights", spec := "fnExactTurnHeights", unfollowed := true, recurses := true, apart := false }
def FnExactTurnHeightsSaid : Prop := fnExactTurnHeightsRow.holds Try.pinned (OpenSpec.ofChange fnExactTurnHeightsSpec)

/-- ITS FALSE NEIGHBOUR: 'it returns false'. Refute it at one input. -/
def fnExactTurnHeightsWrong : ChangeSpec := { name := "fnExactTurnHeights", fn := fun _ => fun
  | [d] => { results := [.lit (.bool false)], args := [d] }
  | _ => none }
def FnExactTurnHeightsWrongFalsely : Prop := fnExactTurnHeightsRow.holds Try.pinned (OpenSpec.ofChange fnExactTurnHeightsWrong)

/-- 'laws.FnExactReadingOf': WHATEVER THE INPUT: true; the input reads as it did. -/
def fnExactReadingOfSpec : ChangeSpec := { name := "fnExactReadingOf", fn := fun _ => fun
  | [d] => { results := [.lit (.bool true)], args := [d] }
  | _ => none }
def fnExactReadingOfRow : OpenClaim := { program := "ytmollfkakalagaa", sum := "79a257d2749a456cf5bc1b754b2f07c560c773bdccaa64ffbe34f6c35c73a520", func := "loop.example/g01115/laws.FnExactReadingOf", spec := "fnExactReadingOf", unfollowed := true, recurses := true, apart := false }
def FnExactReadingOfSaid : Prop := fnExactReadingOfRow.holds Try.pinned (OpenSpec.ofChange fnExactReadingOfSpec)

/-- ITS FALSE NEIGHBOUR: 'it returns false'. Refute it at one input. -/
def fnExactReadingOfWrong : ChangeSpec := { name := "fnExactReadingOf", fn := fun _ => fun
  | [d] => { results := [.lit (.bool false)], args := [d] }
  | _ => none }
def FnExactReadingOfWrongFalsely : Prop := fnExactReadingOfRow.holds Try.pinned (OpenSpec.ofChange fnExactReadingOfWrong)

/-- 'laws.FnExactTreeOfPrufer': WHATEVER THE INPUT: true; the input reads as it did. -/
def fnExactTreeOfPruferSpec : ChangeSpec := { name := "fnExactTreeOfPrufer", fn := fun _ => fun
  | [d] => { results := [.lit (.bool true)], args := [d] }
  | _ => none }
def fnExactTreeOfPruferRow : OpenClaim := { program := "ytmollfkakalagaa", sum := "79a257d2749a456cf5bc1b754b2f07c560c773bdccaa64ffbe34f6c35c73a520", func := "loop.example/g01115/laws.FnExactTreeOfPrufer", spec := "fnExactTreeOfPrufer", unfollowed := true, recurses := true, apart := false }
def FnExactTreeOfPruferSaid : Prop := fnExactTreeOfPruferRow.holds Try.pinned (OpenSpec.ofChange fnExactTreeOfPruferSpec)

/-- ITS FALSE NEIGHBOUR: 'it returns false'. Refute it at one input. -/
def fnExactTreeOfPruferWrong : ChangeSpec := { name := "fnExactTreeOfPrufer", fn := fun _ => fun
  | [d] => { results := [.lit (.bool false)], args := [d] }
  | _ => none }
def FnExactTreeOfPruferWrongFalsely : Prop := fnExactTreeOfPruferRow.holds Try.pinned (OpenSpec.ofChange fnExactTreeOfPruferWrong)

/-- 'laws.FnExactInversionPairs': WHATEVER THE INPUT: true; the input reads as it did. -/
def fnExactInversionPairsSpec : ChangeSpec := { name := "fnExactInversionPairs", fn := fun _ => fun
  | [d] => { results := [.lit (.bool true)], args := [d] }
  | _ => none }
def fnExactInversionPairsRow : OpenClaim := { program := "ytmollfkakalagaa", sum := "79a257d2749a456cf5bc1b754b2f07c560c773bdccaa64ffbe34f6c35c73a520", func := "loop.example/g01115/laws.FnExactInversionPairs", spec := "fnExactInversionPairs", unfollowed := true, recurses := true, apart := false }
def FnExactInversionPairsSaid : Prop := fnExactInversionPairsRow.holds Try.pinned (OpenSpec.ofChange fnExactInversionPairsSpec)

/-- ITS FALSE NEIGHBOUR: 'it returns false'. Refute it at one input. -/
def fnExactInversionPairsWrong : ChangeSpec := { name := "fnExactInversionPairs", fn := fun _ => fun
  | [d] => { results := [.lit (.bool false)], args := [d] }
  | _ => none }
def FnExactInversionPairsWrongFalsely : Prop := fnExactInversionPairsRow.holds Try.pinned (OpenSpec.ofChange fnExactInversionPairsWrong)

/-- 'laws.FnExactPairsOf': WHATEVER THE INPUT: true; the input reads as it did. -/
def fnExactPairsOfSpec : ChangeSpec := { name := "fnExactPairsOf", fn := fun _ => fun
  | [d] => { results := [.lit (.bool true)], args := [d] }
  | _ => none }
def fnExactPairsOfRow : OpenClaim := { program := "ytmollfkakalagaa", sum := "79a257d2749a456cf5bc1b754b2f07c560c773bdccaa64ffbe34f6c35c73a520", func := "loop.example/g01115/laws.FnExactPairsOf", spec := "fnExactPairsOf", unfollowed := true, recurses := true, apart := false }
def FnExactPairsOfSaid : Prop := fnExactPairsOfRow.holds Try.pinned (OpenSpec.ofChange fnExactPairsOfSpec)

/-- ITS FALSE NEIGHBOUR: 'it returns false'. Refute it at one input. -/
def fnExactPairsOfWrong : ChangeSpec := { name := "fnExactPairsOf", fn := fun _ => fun
  | [d] => { results := [.lit (.bool false)], args := [d] }
  | _ => none }
def FnExactPairsOfWrongFalsely : Prop := fnExactPairsOfRow.holds Try.pinned (OpenSpec.ofChange fnExactPairsOfWrong)

/-- 'laws.FnExactAllHeights': WHATEVER THE INPUT: true; the input reads as it did. -/
def fnExactAllHeightsSpec : ChangeSpec := { name := "fnExactAllHeights", fn := fun _ => fun
  | [d] => { results := [.lit (.bool true)], args := [d] }
  | _ => none }
def fnExactAllHeightsRow : OpenClaim := { program := "ytmollfkakalagaa", sum := "79a257d2749a456cf5bc1b754b2f07c560c773bdccaa64ffbe34f6c35c73a520", func := "loop.example/g01115/laws.FnExactAllHeights", spec := "fnExactAllHeights", recurses := true, apart := false }
def FnExactAllHeightsSaid : Prop := fnExactAllHeightsRow.holds Try.pinned (OpenSpec.ofChange fnExactAllHeightsSpec)

/-- ITS FALSE NEIGHBOUR: 'it returns false'. Refute it at one input. -/
def fnExactAllHeightsWrong : ChangeSpec := { name := "fnExactAllHeights", fn := fun _ => fun
  | [d] => { results := [.lit (.bool false)], args := [d] }
  | _ => none }
def FnExactAllHeightsWrongFalsely : Prop := fnExactAllHeightsRow.holds Try.pinned (OpenSpec.ofChange fnExactAllHeightsWrong)

/-- 'laws.FnExactAllTrees': WHATEVER THE INPUT: true; the input reads as it did. -/
def fnExactAllTreesSpec : ChangeSpec := { name := "fnExactAllTrees", fn := fun _ => fun
  | [d] => { results := [.lit (.bool true)], args := [d] }
  | _ => none }
def fnExactAllTreesRow : OpenClaim := { program := "ytmollfkakalagaa", sum := "79a257d2749a456cf5bc1b754b2f07c560c773bdccaa64ffbe34f6c35c73a520", func := "loop.example/g01115/laws.FnExactAllTrees", spec := "fnExactAllTrees", unfollowed := true, recurses := true, apart := false }
def FnExactAllTreesSaid : Prop := fnExactAllTreesRow.holds Try.pinned (OpenSpec.ofChange fnExactAllTreesSpec)

/-- ITS FALSE NEIGHBOUR: 'it returns false'. Refute it at one input. -/
def fnExactAllTreesWrong : ChangeSpec := { name := "fnExactAllTrees", fn := fun _ => fun
  | [d] => { results := [.lit (.bool false)], args := [d] }
  | _ => none }
def FnExactAllTreesWrongFalsely : Prop := fnExactAllTreesRow.holds Try.pinned (OpenSpec.ofChange fnExactAllTreesWrong)

/-- 'laws.FnExactSpreadOfWalks': WHATEVER THE INPUT: true; the input reads as it did. -/
def fnExactSpreadOfWalksSpec : ChangeSpec := { name := "fnExactSpreadOfWalks", fn := fun _ => fun
  | [d] => { results := [.lit (.bool true)], args := [d] }
  | _ => none }
def fnExactSpreadOfWalksRow : OpenClaim := { program := "ytmollfkakalagaa", sum := "79a257d2749a456cf5bc1b754b2f07c560c773bdccaa64ffbe34f6c35c73a520", func := "loop.example/g01115/laws.FnExactSpreadOfWalks", spec := "fnExactSpreadOfWalks", unfollowed := true, recurses := true, apart := false }
def FnExactSpreadOfWalksSaid : Prop := fnExactSpreadOfWalksRow.holds Try.pinned (OpenSpec.ofChange fnExactSpreadOfWalksSpec)

/-- ITS FALSE NEIGHBOUR: 'it returns false'. Refute it at one input. -/
def fnExactSpreadOfWalksWrong : ChangeSpec := { name := "fnExactSpreadOfWalks", fn := fun _ => fun
  | [d] => { results := [.lit (.bool false)], args := [d] }
  | _ => none }
def FnExactSpreadOfWalksWrongFalsely : Prop := fnExactSpreadOfWalksRow.holds Try.pinned (OpenSpec.ofChange fnExactSpreadOfWalksWrong)

/-- 'laws.FnExactCountByInversions': WHATEVER THE INPUT: true; the input reads as it did. -/
def fnExactCountByInversionsSpec : ChangeSpec := { name := "fnExactCountByInversions", fn := fun _ => fun
  | [d] => { results := [.lit (.bool true)], args := [d] }
  | _ => none }
def fnExactCountByInversionsRow : OpenClaim := { program := "ytmollfkakalagaa", sum := "79a257d2749a456cf5bc1b754b2f07c560c773bdccaa64ffbe34f6c35c73a520", func := "loop.example/g01115/laws.FnExactCountByInversions", spec := "fnExactCountByInversions", unfollowed := true, recurses := true, apart := false }
def FnExactCountByInversionsSaid : Prop := fnExactCountByInversionsRow.holds Try.pinned (OpenSpec.ofChange fnExactCountByInversionsSpec)

/-- ITS FALSE NEIGHBOUR: 'it returns false'. Refute it at one input. -/
def fnExactCountByInversionsWrong : ChangeSpec := { name := "fnExactCountByInversions", fn := fun _ => fun
  | [d] => { results := [.lit (.bool false)], args := [d] }
  | _ => none }
def FnExactCountByInversionsWrongFalsely : Prop := fnExactCountByInversionsRow.holds Try.pinned (OpenSpec.ofChange fnExactCountByInversionsWrong)

/-- 'laws.FnTreesAreWords': WHATEVER THE INPUT: true; the input reads as it did. -/
def fnTreesAreWordsSpec : ChangeSpec := { name := "fnTreesAreWords", fn := fun _ => fun
  | [d1, d2] => { results := [.lit (.bool true)], args := [d1, d2] }
  | _ => none }
def fnTreesAreWordsRow : OpenClaim := { program := "ytmollfkakalagaa", sum := "79a257d2749a456cf5bc1b754b2f07c560c773bdccaa64ffbe34f6c35c73a520", func := "loop.example/g01115/laws.FnTreesAreWords", spec := "fnTreesAreWords", unfollowed := true, recurses := true, apart := false }
def FnTreesAreWordsSaid : Prop := fnTreesAreWordsRow.holds Try.pinned (OpenSpec.ofChange fnTreesAreWordsSpec)

/-- ITS FALSE NEIGHBOUR: 'it returns false'. Refute it at one input. -/
def fnTreesAreWordsWrong : ChangeSpec := { name := "fnTreesAreWords", fn := fun _ => fun
  | [d1, d2] => { results := [.lit (.bool false)], args := [d1, d2] }
  | _ => none }
def FnTreesAreWordsWrongFalsely : Prop := fnTreesAreWordsRow.holds Try.pinned (OpenSpec.ofChange fnTreesAreWordsWrong)

/-- 'laws.FnHeightsTurned': WHATEVER THE INPUT: true; the input reads as it did. -/
def fnHeightsTurnedSpec : ChangeSpec := { name := "fnHeightsTurned", fn := fun _ => fun
  | [d1, d2] => { results := [.lit (.bool true)], args := [d1, d2] }
  | _ => none }
def fnHeightsTurnedRow : OpenClaim := { program := "ytmollfkakalagaa", sum := "79a257d2749a456cf5bc1b754b2f07c560c773bdccaa64ffbe34f6c35c73a520", func := "loop.example/g01115/laws.FnHeightsTurned", spec := "fnHeightsTurned", unfollowed := true, recurses := true, apart := false }
def FnHeightsTurnedSaid : Prop := fnHeightsTurnedRow.holds Try.pinned (OpenSpec.ofChange fnHeightsTurnedSpec)

/-- ITS FALSE NEIGHBOUR: 'it returns false'. Refute it at one input. -/
def fnHeightsTurnedWrong : ChangeSpec := { name := "fnHeightsTurned", fn := fun _ => fun
  | [d1, d2] => { results := [.lit (.bool false)], args := [d1, d2] }
  | _ => none }
def FnHeightsTurnedWrongFalsely : Prop := fnHeightsTurnedRow.holds Try.pinned (OpenSpec.ofChange fnHeightsTurnedWrong)

/- THE SECOND FORM. 'bulk': how many values and letters a reading holds, each counted each time it is reached (what is shared counts as often as it is met; a slice's spare places count too). A statement '..UptoSaid' is the law's where the arguments, and the package variables that the reading takes, are together of bulk at most 1048576: NARROWER than '..Said'. Prove '..Said' where nothing that the law and all that it calls make is longer than what came in: it says more and counts as full. Else prove '..UptoSaid'. A law counts once. -/
mutual
def uptoBulk {H : Type} : DataW H → Nat
  | .lit (.string bytes) => bytes.length + 1
  | .lit _ => 1
  | .nil => 1
  | .ptr d => uptoBulk d + 1
  | .slice elems spare => uptoBulkAll elems + uptoBulkAll spare + 1
  | .agg parts => uptoBulkAll parts + 1
  | .iface _ d => uptoBulk d + 1
  | .map entries => uptoBulkEntries entries + 1
  | .held _ => 1
def uptoBulkAll {H : Type} : List (DataW H) → Nat
  | [] => 0
  | d :: r => uptoBulk d + uptoBulkAll r
def uptoBulkEntries {H : Type} : List (Lit × DataW H) → Nat
  | [] => 0
  | x :: r => uptoBulkEntry x + uptoBulkEntries r
def uptoBulkEntry {H : Type} : Lit × DataW H → Nat
  | (.string bytes, d) => bytes.length + uptoBulk d + 1
  | (_, d) => uptoBulk d + 1
 end
def uptoSmall : (H : Type) → List (DataW H) → Bool := fun _ ds => decide (uptoBulkAll ds ≤ 1048576)
def OpenSpec.upto (s : _root_.Go.ChangeSpec) : _root_.Go.OpenSpec := { _root_.Go.OpenSpec.ofChange s with cond := some uptoSmall }

/-- 'laws.FnExactTouchesOf', WHERE WHAT IT READS IS OF BULK AT MOST 1048576: true; the input reads as it did. -/
def fnExactTouchesOfUptoRow : OpenClaim := { program := "ytmollfkakalagaa", sum := "79a257d2749a456cf5bc1b754b2f07c560c773bdccaa64ffbe34f6c35c73a520", func := "loop.example/g01115/laws.FnExactTouchesOf", spec := "fnExactTouchesOf", unfollowed := true, recurses := true, apart := false, narrowed := true }
def FnExactTouchesOfUptoSaid : Prop := fnExactTouchesOfUptoRow.holds Try.pinned (OpenSpec.upto fnExactTouchesOfSpec)

/-- 'laws.FnExactTurnHeights', WHERE WHAT IT READS IS OF BULK AT MOST 1048576: true; the input reads as it did. -/
def fnExactTurnHeightsUptoRow : OpenClaim := { program := "ytmollfkakalagaa", sum := "79a257d2749a456cf5bc1b754b2f07c560c773bdccaa64ffbe34f6c35c73a520", func := "loop.example/g01115/laws.FnExactTurnHeights", spec := "fnExactTurnHeights", unfollowed := true, recurses := true, apart := false, narrowed := true }
def FnExactTurnHeightsUptoSaid : Prop := fnExactTurnHeightsUptoRow.holds Try.pinned (OpenSpec.upto fnExactTurnHeightsSpec)

/-- 'laws.FnExactReadingOf', WHERE WHAT IT READS IS OF BULK AT MOST 1048576: true; the input reads as it did. -/
def fnExactReadingOfUptoRow : OpenClaim := { program := "ytmollfkakalagaa", sum := "79a257d2749a456cf5bc1b754b2f07c560c773bdccaa64ffbe34f6c35c73a520", func := "loop.example/g01115/laws.FnExactReadingOf", spec := "fnExactReadingOf", unfollowed := true, recurses := true, apart := false, narrowed := true }
def FnExactReadingOfUptoSaid : Prop := fnExactReadingOfUptoRow.holds Try.pinned (OpenSpec.upto fnExactReadingOfSpec)

/-- 'laws.FnExactTreeOfPrufer', WHERE WHAT IT READS IS OF BULK AT MOST 1048576: true; the input reads as it did. -/
def fnExactTreeOfPruferUptoRow : OpenClaim := { program := "ytmollfkakalagaa", sum := "79a257d2749a456cf5bc1b754b2f07c560c773bdccaa64ffbe34f6c35c73a520", func := "loop.example/g01115/laws.FnExactTreeOfPrufer", spec := "fnExactTreeOfPrufer", unfollowed := true, recurses := true, apart := false, narrowed := true }
def FnExactTreeOfPruferUptoSaid : Prop := fnExactTreeOfPruferUptoRow.holds Try.pinned (OpenSpec.upto fnExactTreeOfPruferSpec)

/-- 'laws.FnExactInversionPairs', WHERE WHAT IT READS IS OF BULK AT MOST 1048576: true; the input reads as it did. -/
def fnExactInversionPairsUptoRow : OpenClaim := { program := "ytmollfkakalagaa", sum := "79a257d2749a456cf5bc1b754b2f07c560c773bdccaa64ffbe34f6c35c73a520", func := "loop.example/g01115/laws.FnExactInversionPairs", spec := "fnExactInversionPairs", unfollowed := true, recurses := true, apart := false, narrowed := true }
def FnExactInversionPairsUptoSaid : Prop := fnExactInversionPairsUptoRow.holds Try.pinned (OpenSpec.upto fnExactInversionPairsSpec)

/-- 'laws.FnExactPairsOf', WHERE WHAT IT READS IS OF BULK AT MOST 1048576: true; the input reads as it did. -/
def fnExactPairsOfUptoRow : OpenClaim := { program := "ytmollfkakalagaa", sum := "79a257d2749a456cf5bc1b754b2f07c560c773bdccaa64ffbe34f6c35c73a520", func := "loop.example/g01115/laws.FnExactPairsOf", spec := "fnExactPairsOf", unfollowed := true, recurses := true, apart := false, narrowed := true }
def FnExactPairsOfUptoSaid : Prop := fnExactPairsOfUptoRow.holds Try.pinned (OpenSpec.upto fnExactPairsOfSpec)

/-- 'laws.FnExactAllHeights', WHERE WHAT IT READS IS OF BULK AT MOST 1048576: true; the input reads as it did. -/
def fnExactAllHeightsUptoRow : OpenClaim := { program := "ytmollfkakalagaa", sum := "79a257d2749a456cf5bc1b754b2f07c560c773bdccaa64ffbe34f6c35c73a520", func := "loop.example/g01115/laws.FnExactAllHeights", spec := "fnExactAllHeights", recurses := true, apart := false, narrowed := true }
def FnExactAllHeightsUptoSaid : Prop := fnExactAllHeightsUptoRow.holds Try.pinned (OpenSpec.upto fnExactAllHeightsSpec)

/-- 'laws.FnExactAllTrees', WHERE WHAT IT READS IS OF BULK AT MOST 1048576: true; the input reads as it did. -/
def fnExactAllTreesUptoRow : OpenClaim := { program := "ytmollfkakalagaa", sum := "79a257d2749a456cf5bc1b754b2f07c560c773bdccaa64ffbe34f6c35c73a520", func := "loop.example/g01115/laws.FnExactAllTrees", spec := "fnExactAllTrees", unfollowed := true, recurses := true, apart := false, narrowed := true }
def FnExactAllTreesUptoSaid : Prop := fnExactAllTreesUptoRow.holds Try.pinned (OpenSpec.upto fnExactAllTreesSpec)

/-- 'laws.FnExactSpreadOfWalks', WHERE WHAT IT READS IS OF BULK AT MOST 1048576: true; the input reads as it did. -/
def fnExactSpreadOfWalksUptoRow : OpenClaim := { program := "ytmollfkakalagaa", sum := "79a257d2749a456cf5bc1b754b2f07c560c773bdccaa64ffbe34f6c35c73a520", func := "loop.example/g01115/laws.FnExactSpreadOfWalks", spec := "fnExactSpreadOfWalks", unfollowed := true, recurses := true, apart := false, narrowed := true }
def FnExactSpreadOfWalksUptoSaid : Prop := fnExactSpreadOfWalksUptoRow.holds Try.pinned (OpenSpec.upto fnExactSpreadOfWalksSpec)

/-- 'laws.FnExactCountByInversions', WHERE WHAT IT READS IS OF BULK AT MOST 1048576: true; the input reads as it did. -/
def fnExactCountByInversionsUptoRow : OpenClaim := { program := "ytmollfkakalagaa", sum := "79a257d2749a456cf5bc1b754b2f07c560c773bdccaa64ffbe34f6c35c73a520", func := "loop.example/g01115/laws.FnExactCountByInversions", spec := "fnExactCountByInversions", unfollowed := true, recurses := true, apart := false, narrowed := true }
def FnExactCountByInversionsUptoSaid : Prop := fnExactCountByInversionsUptoRow.holds Try.pinned (OpenSpec.upto fnExactCountByInversionsSpec)

/-- 'laws.FnTreesAreWords', WHERE WHAT IT READS IS OF BULK AT MOST 1048576: true; the input reads as it did. -/
def fnTreesAreWordsUptoRow : OpenClaim := { program := "ytmollfkakalagaa", sum := "79a257d2749a456cf5bc1b754b2f07c560c773bdccaa64ffbe34f6c35c73a520", func := "loop.example/g01115/laws.FnTreesAreWords", spec := "fnTreesAreWords", unfollowed := true, recurses := true, apart := false, narrowed := true }
def FnTreesAreWordsUptoSaid : Prop := fnTreesAreWordsUptoRow.holds Try.pinned (OpenSpec.upto fnTreesAreWordsSpec)

/-- 'laws.FnHeightsTurned', WHERE WHAT IT READS IS OF BULK AT MOST 1048576: true; the input reads as it did. -/
def fnHeightsTurnedUptoRow : OpenClaim := { program := "ytmollfkakalagaa", sum := "79a257d2749a456cf5bc1b754b2f07c560c773bdccaa64ffbe34f6c35c73a520", func := "loop.example/g01115/laws.FnHeightsTurned", spec := "fnHeightsTurned", unfollowed := true, recurses := true, apart := false, narrowed := true }
def FnHeightsTurnedUptoSaid : Prop := fnHeightsTurnedUptoRow.holds Try.pinned (OpenSpec.upto fnHeightsTurnedSpec)

end Rows
end Go.Proofs.Ytmollfkakalagaa
