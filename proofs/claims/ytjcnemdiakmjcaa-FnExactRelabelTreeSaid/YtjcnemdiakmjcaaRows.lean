/-
  No cell of these rows narrows 'for every input' (looked for: loops, veiled, ifaces, maps, wideKeys, modest, calm, conditions, laid).
  DERIVED. THE GIVEN ROWS OF THIS SEAT. 12 by the template 'for every input the law returns true; each argument reads behind the call as it read before'; 0 by the template 'total and deterministic' (their statements: YtjcnemdiakmjcaaTotals.lean).
  GIVEN WITH THE SEED: the statements are not yours to turn. If you find one false, say at which input.
  Laid BY PROGRAM, IN A SANDBOX (cutbox-rows.mjs): the forced cells as the released guide's own fill.sh prints them over the translation 1854ee859d882eab… (all of the seat's roots in one cut). By AI agents, Wed Nov 11 2026. No macro, syntax, notation, axiom, sorry.
-/
import Derived.Test.YtjcnemdiakmjcaaChecked
import GoSem.Claim
import GoSem.ClaimJoined
import GoSem.ClaimMapViews
import Derived.JoinedTies
import Derived.KernelRfl
namespace Go.Proofs.Ytjcnemdiakmjcaa
/- THE CELL 'sum', in the pinned program and in every row, IS THE sha256 OF THE DUMP (.gsa) THAT YtjcnemdiakmjcaaProg.lean LOADS. Nothing in Lean hashes anything: it is a label: what it is worth is what the hold of that sum in a sandbox is worth. -/
noncomputable def Try.pinned : Pinned := { name := "ytjcnemdiakmjcaa", sum := "1854ee859d882eaba77e52f9794c99b9bf21275b0dcf2c04cb1b818f3241bfbc", checked := Try.checked }
namespace Rows
def none {H : Type} : Left H := { results := [], args := [] }

/-- 'laws.FnExactParkingOfTree': WHATEVER THE INPUT: true; the input reads as it did. -/
def fnExactParkingOfTreeSpec : ChangeSpec := { name := "fnExactParkingOfTree", fn := fun _ => fun
  | [d] => { results := [.lit (.bool true)], args := [d] }
  | _ => none }
def fnExactParkingOfTreeRow : OpenClaim := { program := "ytjcnemdiakmjcaa", sum := "1854ee859d882eaba77e52f9794c99b9bf21275b0dcf2c04cb1b818f3241bfbc", func := "loop.example/g01115/laws.FnExactParkingOfTree", spec := "fnExactParkingOfTree", unfollowed := true, recurses := true, apart := false }
def FnExactParkingOfTreeSaid : Prop := fnExactParkingOfTreeRow.holds Try.pinned (OpenSpec.ofChange fnExactParkingOfTreeSpec)

/-- ITS FALSE NEIGHBOUR: 'it returns false'. Refute it at one input. -/
def fnExactParkingOfTreeWrong : ChangeSpec := { name := "fnExactParkingOfTree", fn := fun _ => fun
  | [d] => { results := [.lit (.bool false)], args := [d] }
  | _ => none }
def FnExactParkingOfTreeWrongFalsely : Prop := fnExactParkingOfTreeRow.holds Try.pinned (OpenSpec.ofChange fnExactParkingOfTreeWrong)

/-- 'laws.FnExactWalkOfParking': WHATEVER THE INPUT: true; the input reads as it did. -/
def fnExactWalkOfParkingSpec : ChangeSpec := { name := "fnExactWalkOfParking", fn := fun _ => fun
  | [d] => { results := [.lit (.bool true)], args := [d] }
  | _ => none }
def fnExactWalkOfParkingRow : OpenClaim := { program := "ytjcnemdiakmjcaa", sum := "1854ee859d882eaba77e52f9794c99b9bf21275b0dcf2c04cb1b818f3241bfbc", func := "loop.example/g01115/laws.FnExactWalkOfParking", spec := "fnExactWalkOfParking", unfollowed := true, recurses := true, apart := false }
def FnExactWalkOfParkingSaid : Prop := fnExactWalkOfParkingRow.holds Try.pinned (OpenSpec.ofChange fnExactWalkOfParkingSpec)

/-- ITS FALSE NEIGHBOUR: 'it returns false'. Refute it at one input. -/
def fnExactWalkOfParkingWrong : ChangeSpec := { name := "fnExactWalkOfParking", fn := fun _ => fun
  | [d] => { results := [.lit (.bool false)], args := [d] }
  | _ => none }
def FnExactWalkOfParkingWrongFalsely : Prop := fnExactWalkOfParkingRow.holds Try.pinned (OpenSpec.ofChange fnExactWalkOfParkingWrong)

/-- 'laws.FnExactPruferOf': WHATEVER THE INPUT: true; the input reads as it did. -/
def fnExactPruferOfSpec : ChangeSpec := { name := "fnExactPruferOf", fn := fun _ => fun
  | [d] => { results := [.lit (.bool true)], args := [d] }
  | _ => none }
def fnExactPruferOfRow : OpenClaim := { program := "ytjcnemdiakmjcaa", sum := "1854ee859d882eaba77e52f9794c99b9bf21275b0dcf2c04cb1b818f3241bfbc", func := "loop.example/g01115/laws.FnExactPruferOf", spec := "fnExactPruferOf", unfollowed := true, recurses := true, apart := false }
def FnExactPruferOfSaid : Prop := fnExactPruferOfRow.holds Try.pinned (OpenSpec.ofChange fnExactPruferOfSpec)

/-- ITS FALSE NEIGHBOUR: 'it returns false'. Refute it at one input. -/
def fnExactPruferOfWrong : ChangeSpec := { name := "fnExactPruferOf", fn := fun _ => fun
  | [d] => { results := [.lit (.bool false)], args := [d] }
  | _ => none }
def FnExactPruferOfWrongFalsely : Prop := fnExactPruferOfRow.holds Try.pinned (OpenSpec.ofChange fnExactPruferOfWrong)

/-- 'laws.FnExactTreeOfPrufer': WHATEVER THE INPUT: true; the input reads as it did. -/
def fnExactTreeOfPruferSpec : ChangeSpec := { name := "fnExactTreeOfPrufer", fn := fun _ => fun
  | [d] => { results := [.lit (.bool true)], args := [d] }
  | _ => none }
def fnExactTreeOfPruferRow : OpenClaim := { program := "ytjcnemdiakmjcaa", sum := "1854ee859d882eaba77e52f9794c99b9bf21275b0dcf2c04cb1b818f3241bfbc", func := "loop.example/g01115/laws.FnExactTreeOfPrufer", spec := "fnExactTreeOfPrufer", unfollowed := true, recurses := true, apart := false }
def FnExactTreeOfPruferSaid : Prop := fnExactTreeOfPruferRow.holds Try.pinned (OpenSpec.ofChange fnExactTreeOfPruferSpec)

/-- ITS FALSE NEIGHBOUR: 'it returns false'. Refute it at one input. -/
def fnExactTreeOfPruferWrong : ChangeSpec := { name := "fnExactTreeOfPrufer", fn := fun _ => fun
  | [d] => { results := [.lit (.bool false)], args := [d] }
  | _ => none }
def FnExactTreeOfPruferWrongFalsely : Prop := fnExactTreeOfPruferRow.holds Try.pinned (OpenSpec.ofChange fnExactTreeOfPruferWrong)

/-- 'laws.FnExactAllTrees': WHATEVER THE INPUT: true; the input reads as it did. -/
def fnExactAllTreesSpec : ChangeSpec := { name := "fnExactAllTrees", fn := fun _ => fun
  | [d] => { results := [.lit (.bool true)], args := [d] }
  | _ => none }
def fnExactAllTreesRow : OpenClaim := { program := "ytjcnemdiakmjcaa", sum := "1854ee859d882eaba77e52f9794c99b9bf21275b0dcf2c04cb1b818f3241bfbc", func := "loop.example/g01115/laws.FnExactAllTrees", spec := "fnExactAllTrees", unfollowed := true, recurses := true, apart := false }
def FnExactAllTreesSaid : Prop := fnExactAllTreesRow.holds Try.pinned (OpenSpec.ofChange fnExactAllTreesSpec)

/-- ITS FALSE NEIGHBOUR: 'it returns false'. Refute it at one input. -/
def fnExactAllTreesWrong : ChangeSpec := { name := "fnExactAllTrees", fn := fun _ => fun
  | [d] => { results := [.lit (.bool false)], args := [d] }
  | _ => none }
def FnExactAllTreesWrongFalsely : Prop := fnExactAllTreesRow.holds Try.pinned (OpenSpec.ofChange fnExactAllTreesWrong)

/-- 'laws.FnExactSpreadOfWalks': WHATEVER THE INPUT: true; the input reads as it did. -/
def fnExactSpreadOfWalksSpec : ChangeSpec := { name := "fnExactSpreadOfWalks", fn := fun _ => fun
  | [d] => { results := [.lit (.bool true)], args := [d] }
  | _ => none }
def fnExactSpreadOfWalksRow : OpenClaim := { program := "ytjcnemdiakmjcaa", sum := "1854ee859d882eaba77e52f9794c99b9bf21275b0dcf2c04cb1b818f3241bfbc", func := "loop.example/g01115/laws.FnExactSpreadOfWalks", spec := "fnExactSpreadOfWalks", unfollowed := true, recurses := true, apart := false }
def FnExactSpreadOfWalksSaid : Prop := fnExactSpreadOfWalksRow.holds Try.pinned (OpenSpec.ofChange fnExactSpreadOfWalksSpec)

/-- ITS FALSE NEIGHBOUR: 'it returns false'. Refute it at one input. -/
def fnExactSpreadOfWalksWrong : ChangeSpec := { name := "fnExactSpreadOfWalks", fn := fun _ => fun
  | [d] => { results := [.lit (.bool false)], args := [d] }
  | _ => none }
def FnExactSpreadOfWalksWrongFalsely : Prop := fnExactSpreadOfWalksRow.holds Try.pinned (OpenSpec.ofChange fnExactSpreadOfWalksWrong)

/-- 'laws.FnExactIsWalk': WHATEVER THE INPUT: true; the input reads as it did. -/
def fnExactIsWalkSpec : ChangeSpec := { name := "fnExactIsWalk", fn := fun _ => fun
  | [d] => { results := [.lit (.bool true)], args := [d] }
  | _ => none }
def fnExactIsWalkRow : OpenClaim := { program := "ytjcnemdiakmjcaa", sum := "1854ee859d882eaba77e52f9794c99b9bf21275b0dcf2c04cb1b818f3241bfbc", func := "loop.example/g01115/laws.FnExactIsWalk", spec := "fnExactIsWalk", unfollowed := true, recurses := true, apart := false }
def FnExactIsWalkSaid : Prop := fnExactIsWalkRow.holds Try.pinned (OpenSpec.ofChange fnExactIsWalkSpec)

/-- ITS FALSE NEIGHBOUR: 'it returns false'. Refute it at one input. -/
def fnExactIsWalkWrong : ChangeSpec := { name := "fnExactIsWalk", fn := fun _ => fun
  | [d] => { results := [.lit (.bool false)], args := [d] }
  | _ => none }
def FnExactIsWalkWrongFalsely : Prop := fnExactIsWalkRow.holds Try.pinned (OpenSpec.ofChange fnExactIsWalkWrong)

/-- 'laws.FnExactInversionsOf': WHATEVER THE INPUT: true; the input reads as it did. -/
def fnExactInversionsOfSpec : ChangeSpec := { name := "fnExactInversionsOf", fn := fun _ => fun
  | [d] => { results := [.lit (.bool true)], args := [d] }
  | _ => none }
def fnExactInversionsOfRow : OpenClaim := { program := "ytjcnemdiakmjcaa", sum := "1854ee859d882eaba77e52f9794c99b9bf21275b0dcf2c04cb1b818f3241bfbc", func := "loop.example/g01115/laws.FnExactInversionsOf", spec := "fnExactInversionsOf", unfollowed := true, recurses := true, apart := false }
def FnExactInversionsOfSaid : Prop := fnExactInversionsOfRow.holds Try.pinned (OpenSpec.ofChange fnExactInversionsOfSpec)

/-- ITS FALSE NEIGHBOUR: 'it returns false'. Refute it at one input. -/
def fnExactInversionsOfWrong : ChangeSpec := { name := "fnExactInversionsOf", fn := fun _ => fun
  | [d] => { results := [.lit (.bool false)], args := [d] }
  | _ => none }
def FnExactInversionsOfWrongFalsely : Prop := fnExactInversionsOfRow.holds Try.pinned (OpenSpec.ofChange fnExactInversionsOfWrong)

/-- 'laws.FnExactAreaOf': WHATEVER THE INPUT: true; the input reads as it did. -/
def fnExactAreaOfSpec : ChangeSpec := { name := "fnExactAreaOf", fn := fun _ => fun
  | [d] => { results := [.lit (.bool true)], args := [d] }
  | _ => none }
def fnExactAreaOfRow : OpenClaim := { program := "ytjcnemdiakmjcaa", sum := "1854ee859d882eaba77e52f9794c99b9bf21275b0dcf2c04cb1b818f3241bfbc", func := "loop.example/g01115/laws.FnExactAreaOf", spec := "fnExactAreaOf", unfollowed := true, recurses := true, apart := false }
def FnExactAreaOfSaid : Prop := fnExactAreaOfRow.holds Try.pinned (OpenSpec.ofChange fnExactAreaOfSpec)

/-- ITS FALSE NEIGHBOUR: 'it returns false'. Refute it at one input. -/
def fnExactAreaOfWrong : ChangeSpec := { name := "fnExactAreaOf", fn := fun _ => fun
  | [d] => { results := [.lit (.bool false)], args := [d] }
  | _ => none }
def FnExactAreaOfWrongFalsely : Prop := fnExactAreaOfRow.holds Try.pinned (OpenSpec.ofChange fnExactAreaOfWrong)

/-- 'laws.FnExactRelabelTree': WHATEVER THE INPUT: true; the input reads as it did. -/
def fnExactRelabelTreeSpec : ChangeSpec := { name := "fnExactRelabelTree", fn := fun _ => fun
  | [d1, d2] => { results := [.lit (.bool true)], args := [d1, d2] }
  | _ => none }
def fnExactRelabelTreeRow : OpenClaim := { program := "ytjcnemdiakmjcaa", sum := "1854ee859d882eaba77e52f9794c99b9bf21275b0dcf2c04cb1b818f3241bfbc", func := "loop.example/g01115/laws.FnExactRelabelTree", spec := "fnExactRelabelTree", unfollowed := true, recurses := true, apart := false }
def FnExactRelabelTreeSaid : Prop := fnExactRelabelTreeRow.holds Try.pinned (OpenSpec.ofChange fnExactRelabelTreeSpec)

/-- ITS FALSE NEIGHBOUR: 'it returns false'. Refute it at one input. -/
def fnExactRelabelTreeWrong : ChangeSpec := { name := "fnExactRelabelTree", fn := fun _ => fun
  | [d1, d2] => { results := [.lit (.bool false)], args := [d1, d2] }
  | _ => none }
def FnExactRelabelTreeWrongFalsely : Prop := fnExactRelabelTreeRow.holds Try.pinned (OpenSpec.ofChange fnExactRelabelTreeWrong)

/-- 'laws.FnExactPairCount': WHATEVER THE INPUT: true; the input reads as it did. -/
def fnExactPairCountSpec : ChangeSpec := { name := "fnExactPairCount", fn := fun _ => fun
  | [d] => { results := [.lit (.bool true)], args := [d] }
  | _ => none }
def fnExactPairCountRow : OpenClaim := { program := "ytjcnemdiakmjcaa", sum := "1854ee859d882eaba77e52f9794c99b9bf21275b0dcf2c04cb1b818f3241bfbc", func := "loop.example/g01115/laws.FnExactPairCount", spec := "fnExactPairCount", unfollowed := true, recurses := true, apart := false }
def FnExactPairCountSaid : Prop := fnExactPairCountRow.holds Try.pinned (OpenSpec.ofChange fnExactPairCountSpec)

/-- ITS FALSE NEIGHBOUR: 'it returns false'. Refute it at one input. -/
def fnExactPairCountWrong : ChangeSpec := { name := "fnExactPairCount", fn := fun _ => fun
  | [d] => { results := [.lit (.bool false)], args := [d] }
  | _ => none }
def FnExactPairCountWrongFalsely : Prop := fnExactPairCountRow.holds Try.pinned (OpenSpec.ofChange fnExactPairCountWrong)

/-- 'laws.FnExactParkingOfWalk': WHATEVER THE INPUT: true; the input reads as it did. -/
def fnExactParkingOfWalkSpec : ChangeSpec := { name := "fnExactParkingOfWalk", fn := fun _ => fun
  | [d] => { results := [.lit (.bool true)], args := [d] }
  | _ => none }
def fnExactParkingOfWalkRow : OpenClaim := { program := "ytjcnemdiakmjcaa", sum := "1854ee859d882eaba77e52f9794c99b9bf21275b0dcf2c04cb1b818f3241bfbc", func := "loop.example/g01115/laws.FnExactParkingOfWalk", spec := "fnExactParkingOfWalk", unfollowed := true, recurses := true, apart := false }
def FnExactParkingOfWalkSaid : Prop := fnExactParkingOfWalkRow.holds Try.pinned (OpenSpec.ofChange fnExactParkingOfWalkSpec)

/-- ITS FALSE NEIGHBOUR: 'it returns false'. Refute it at one input. -/
def fnExactParkingOfWalkWrong : ChangeSpec := { name := "fnExactParkingOfWalk", fn := fun _ => fun
  | [d] => { results := [.lit (.bool false)], args := [d] }
  | _ => none }
def FnExactParkingOfWalkWrongFalsely : Prop := fnExactParkingOfWalkRow.holds Try.pinned (OpenSpec.ofChange fnExactParkingOfWalkWrong)

/- THE SECOND FORM. 'bulk': how many values and letters a reading holds, each counted each time it is reached (what is shared counts as often as it is met; a slice's spare places count too). A statement '..UptoSaid' is the law's where the arguments, and the package variables that the reading takes, are together of bulk at most 1048576: NARROWER than '..Said'. Prove '..Said' where nothing that the law and all that it calls make is longer than what came in: it says more and counts as full. Else prove '..UptoSaid'. A law counts once. -/
mutual
def uptoBulk {H : Type} : DataW H → Nat
  | .lit (.string bytes) => bytes.length + 1
  | .lit _ => 1
  | .nil => 1
  | .ptr d => uptoBulk d + 1
  | .slice elems spare => uptoBulkAll elems + uptoBulkAll spare + 1
  | .agg parts => uptoBulkAll parts + 1
  | .iface _ d => uptoBulk d + 1
  | .map entries => uptoBulkEntries entries + 1
  | .held _ => 1
def uptoBulkAll {H : Type} : List (DataW H) → Nat
  | [] => 0
  | d :: r => uptoBulk d + uptoBulkAll r
def uptoBulkEntries {H : Type} : List (Lit × DataW H) → Nat
  | [] => 0
  | x :: r => uptoBulkEntry x + uptoBulkEntries r
def uptoBulkEntry {H : Type} : Lit × DataW H → Nat
  | (.string bytes, d) => bytes.length + uptoBulk d + 1
  | (_, d) => uptoBulk d + 1
 end
def uptoSmall : (H : Type) → List (DataW H) → Bool := fun _ ds => decide (uptoBulkAll ds ≤ 1048576)
def OpenSpec.upto (s : _root_.Go.ChangeSpec) : _root_.Go.OpenSpec := { _root_.Go.OpenSpec.ofChange s with cond := some uptoSmall }

/-- 'laws.FnExactParkingOfTree', WHERE WHAT IT READS IS OF BULK AT MOST 1048576: true; the input reads as it did. -/
def fnExactParkingOfTreeUptoRow : OpenClaim := { program := "ytjcnemdiakmjcaa", sum := "1854ee859d882eaba77e52f9794c99b9bf21275b0dcf2c04cb1b818f3241bfbc", func := "loop.example/g01115/laws.FnExactParkingOfTree", spec := "fnExactParkingOfTree", unfollowed := true, recurses := true, apart := false, narrowed := true }
def FnExactParkingOfTreeUptoSaid : Prop := fnExactParkingOfTreeUptoRow.holds Try.pinned (OpenSpec.upto fnExactParkingOfTreeSpec)

/-- 'laws.FnExactWalkOfParking', WHERE WHAT IT READS IS OF BULK AT MOST 1048576: true; the input reads as it did. -/
def fnExactWalkOfParkingUptoRow : OpenClaim := { program := "ytjcnemdiakmjcaa", sum := "1854ee859d882eaba77e52f9794c99b9bf21275b0dcf2c04cb1b818f3241bfbc", func := "loop.example/g01115/laws.FnExactWalkOfParking", spec := "fnExactWalkOfParking", unfollowed := true, recurses := true, apart := false, narrowed := true }
def FnExactWalkOfParkingUptoSaid : Prop := fnExactWalkOfParkingUptoRow.holds Try.pinned (OpenSpec.upto fnExactWalkOfParkingSpec)

/-- 'laws.FnExactPruferOf', WHERE WHAT IT READS IS OF BULK AT MOST 1048576: true; the input reads as it did. -/
def fnExactPruferOfUptoRow : OpenClaim := { program := "ytjcnemdiakmjcaa", sum := "1854ee859d882eaba77e52f9794c99b9bf21275b0dcf2c04cb1b818f3241bfbc", func := "loop.example/g01115/laws.FnExactPruferOf", spec := "fnExactPruferOf", unfollowed := true, recurses := true, apart := false, narrowed := true }
def FnExactPruferOfUptoSaid : Prop := fnExactPruferOfUptoRow.holds Try.pinned (OpenSpec.upto fnExactPruferOfSpec)

/-- 'laws.FnExactTreeOfPrufer', WHERE WHAT IT READS IS OF BULK AT MOST 1048576: true; the input reads as it did. -/
def fnExactTreeOfPruferUptoRow : OpenClaim := { program := "ytjcnemdiakmjcaa", sum := "1854ee859d882eaba77e52f9794c99b9bf21275b0dcf2c04cb1b818f3241bfbc", func := "loop.example/g01115/laws.FnExactTreeOfPrufer", spec := "fnExactTreeOfPrufer", unfollowed := true, recurses := true, apart := false, narrowed := true }
def FnExactTreeOfPruferUptoSaid : Prop := fnExactTreeOfPruferUptoRow.holds Try.pinned (OpenSpec.upto fnExactTreeOfPruferSpec)

/-- 'laws.FnExactAllTrees', WHERE WHAT IT READS IS OF BULK AT MOST 1048576: true; the input reads as it did. -/
def fnExactAllTreesUptoRow : OpenClaim := { program := "ytjcnemdiakmjcaa", sum := "1854ee859d882eaba77e52f9794c99b9bf21275b0dcf2c04cb1b818f3241bfbc", func := "loop.example/g01115/laws.FnExactAllTrees", spec := "fnExactAllTrees", unfollowed := true, recurses := true, apart := false, narrowed := true }
def FnExactAllTreesUptoSaid : Prop := fnExactAllTreesUptoRow.holds Try.pinned (OpenSpec.upto fnExactAllTreesSpec)

/-- 'laws.FnExactSpreadOfWalks', WHERE WHAT IT READS IS OF BULK AT MOST 1048576: true; the input reads as it did. -/
def fnExactSpreadOfWalksUptoRow : OpenClaim := { program := "ytjcnemdiakmjcaa", sum := "1854ee859d882eaba77e52f9794c99b9bf21275b0dcf2c04cb1b818f3241bfbc", func := "loop.example/g01115/laws.FnExactSpreadOfWalks", spec := "fnExactSpreadOfWalks", unfollowed := true, recurses := true, apart := false, narrowed := true }
def FnExactSpreadOfWalksUptoSaid : Prop := fnExactSpreadOfWalksUptoRow.holds Try.pinned (OpenSpec.upto fnExactSpreadOfWalksSpec)

/-- 'laws.FnExactIsWalk', WHERE WHAT IT READS IS OF BULK AT MOST 1048576: true; the input reads as it did. -/
def fnExactIsWalkUptoRow : OpenClaim := { program := "ytjcnemdiakmjcaa", sum := "1854ee859d882eaba77e52f9794c99b9bf21275b0dcf2c04cb1b818f3241bfbc", func := "loop.example/g01115/laws.FnExactIsWalk", spec := "fnExactIsWalk", unfollowed := true, recurses := true, apart := false, narrowed := true }
def FnExactIsWalkUptoSaid : Prop := fnExactIsWalkUptoRow.holds Try.pinned (OpenSpec.upto fnExactIsWalkSpec)

/-- 'laws.FnExactInversionsOf', WHERE WHAT IT READS IS OF BULK AT MOST 1048576: true; the input reads as it did. -/
def fnExactInversionsOfUptoRow : OpenClaim := { program := "ytjcnemdiakmjcaa", sum := "1854ee859d882eaba77e52f9794c99b9bf21275b0dcf2c04cb1b818f3241bfbc", func := "loop.example/g01115/laws.FnExactInversionsOf", spec := "fnExactInversionsOf", unfollowed := true, recurses := true, apart := false, narrowed := true }
def FnExactInversionsOfUptoSaid : Prop := fnExactInversionsOfUptoRow.holds Try.pinned (OpenSpec.upto fnExactInversionsOfSpec)

/-- 'laws.FnExactAreaOf', WHERE WHAT IT READS IS OF BULK AT MOST 1048576: true; the input reads as it did. -/
def fnExactAreaOfUptoRow : OpenClaim := { program := "ytjcnemdiakmjcaa", sum := "1854ee859d882eaba77e52f9794c99b9bf21275b0dcf2c04cb1b818f3241bfbc", func := "loop.example/g01115/laws.FnExactAreaOf", spec := "fnExactAreaOf", unfollowed := true, recurses := true, apart := false, narrowed := true }
def FnExactAreaOfUptoSaid : Prop := fnExactAreaOfUptoRow.holds Try.pinned (OpenSpec.upto fnExactAreaOfSpec)

/-- 'laws.FnExactRelabelTree', WHERE WHAT IT READS IS OF BULK AT MOST 1048576: true; the input reads as it did. -/
def fnExactRelabelTreeUptoRow : OpenClaim := { program := "ytjcnemdiakmjcaa", sum := "1854ee859d882eaba77e52f9794c99b9bf21275b0dcf2c04cb1b818f3241bfbc", func := "loop.example/g01115/laws.FnExactRelabelTree", spec := "fnExactRelabelTree", unfollowed := true, recurses := true, apart := false, narrowed := true }
def FnExactRelabelTreeUptoSaid : Prop := fnExactRelabelTreeUptoRow.holds Try.pinned (OpenSpec.upto fnExactRelabelTreeSpec)

/-- 'laws.FnExactPairCount', WHERE WHAT IT READS IS OF BULK AT MOST 1048576: true; the input reads as it did. -/
def fnExactPairCountUptoRow : OpenClaim := { program := "ytjcnemdiakmjcaa", sum := "1854ee859d882eaba77e52f9794c99b9bf21275b0dcf2c04cb1b818f3241bfbc", func := "loop.example/g01115/laws.FnExactPairCount", spec := "fnExactPairCount", unfollowed := true, recurses := true, apart := false, narrowed := true }
def FnExactPairCountUptoSaid : Prop := fnExactPairCountUptoRow.holds Try.pinned (OpenSpec.upto fnExactPairCountSpec)

/-- 'laws.FnExactParkingOfWalk', WHERE WHAT IT READS IS OF BULK AT MOST 1048576: true; the input reads as it did. -/
def fnExactParkingOfWalkUptoRow : OpenClaim := { program := "ytjcnemdiakmjcaa", sum := "1854ee859d882eaba77e52f9794c99b9bf21275b0dcf2c04cb1b818f3241bfbc", func := "loop.example/g01115/laws.FnExactParkingOfWalk", spec := "fnExactParkingOfWalk", unfollowed := true, recurses := true, apart := false, narrowed := true }
def FnExactParkingOfWalkUptoSaid : Prop := fnExactParkingOfWalkUptoRow.holds Try.pinned (OpenSpec.upto fnExactParkingOfWalkSpec)

end Rows
end Go.Proofs.Ytjcnemdiakmjcaa
