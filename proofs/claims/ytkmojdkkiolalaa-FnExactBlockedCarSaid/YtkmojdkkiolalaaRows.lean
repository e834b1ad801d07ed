/-
  No cell of these rows narrows 'for every input' (looked for: loops, veiled, ifaces, maps, wideKeys, modest, calm, conditions, laid).
  DERIVED. THE GIVEN ROWS OF THIS SEAT. 12 by the template 'for every input the law returns true; each argument reads behind the call as it read before'; 0 by the template 'total and deterministic' (their statements: YtkmojdkkiolalaaTotals.lean).
  GIVEN WITH THE SEED: the statements are not yours to turn. If you find one false, say at which input.
  Laid BY PROGRAM, IN A SANDBOX (cutbox-rows.mjs): the forced cells as the released guide's own fill.sh prints them over the translation c3c1ed6b51fe5032… (all of the seat's roots in one cut). By AI agents, Wed Nov 11 2026. No macro, syntax, notation, axiom, sorry.
-/
import Derived.Test.YtkmojdkkiolalaaChecked
import GoSem.Claim
import GoSem.ClaimJoined
import GoSem.ClaimMapViews
import Derived.JoinedTies
import Derived.KernelRfl
namespace Go.Proofs.Ytkmojdkkiolalaa
/- THE CELL 'sum', in the pinned program and in every row, IS THE sha256 OF THE DUMP (.gsa) THAT YtkmojdkkiolalaaProg.lean LOADS. Nothing in Lean hashes anything: it is a label: what it is worth is what the hold of that sum in a sandbox is worth. -/
noncomputable def Try.pinned : Pinned := { name := "ytkmojdkkiolalaa", sum := "c3c1ed6b51fe503207315adc72843c92f4690da86a5d77ba9b3237100544a90c", checked := Try.checked }
namespace Rows
def none {H : Type} : Left H := { results := [], args := [] }

/-- 'laws.FnExactDriveSome': WHATEVER THE INPUT: true; the input reads as it did. -/
def fnExactDriveSomeSpec : ChangeSpec := { name := "fnExactDriveSome", fn := fun _ => fun
  | [d1, d2] => { results := [.lit (.bool true)], args := [d1, d2] }
  | _ => none }
def fnExactDriveSomeRow : OpenClaim := { program := "ytkmojdkkiolalaa", sum := "c3c1ed6b51fe503207315adc72843c92f4690da86a5d77ba9b3237100544a90c", func := "loop.example/g01115/laws.FnExactDriveSome", spec := "fnExactDriveSome", unfollowed := true, recurses := true, apart := false }
def FnExactDriveSomeSaid : Prop := fnExactDriveSomeRow.holds Try.pinned (OpenSpec.ofChange fnExactDriveSomeSpec)

/-- ITS FALSE NEIGHBOUR: 'it returns false'. Refute it at one input. -/
def fnExactDriveSomeWrong : ChangeSpec := { name := "fnExactDriveSome", fn := fun _ => fun
  | [d1, d2] => { results := [.lit (.bool false)], args := [d1, d2] }
  | _ => none }
def FnExactDriveSomeWrongFalsely : Prop := fnExactDriveSomeRow.holds Try.pinned (OpenSpec.ofChange fnExactDriveSomeWrong)

/-- 'laws.FnExactFirstLabels': WHATEVER THE INPUT: true; the input reads as it did. -/
def fnExactFirstLabelsSpec : ChangeSpec := { name := "fnExactFirstLabels", fn := fun _ => fun
  | [d] => { results := [.lit (.bool true)], args := [d] }
  | _ => none }
def fnExactFirstLabelsRow : OpenClaim := { program := "ytkmojdkkiolalaa", sum := "c3c1ed6b51fe503207315adc72843c92f4690da86a5d77ba9b3237100544a90c", func := "loop.example/g01115/laws.FnExactFirstLabels", spec := "fnExactFirstLabels", apart := false }
def FnExactFirstLabelsSaid : Prop := fnExactFirstLabelsRow.holds Try.pinned (OpenSpec.ofChange fnExactFirstLabelsSpec)

/-- ITS FALSE NEIGHBOUR: 'it returns false'. Refute it at one input. -/
def fnExactFirstLabelsWrong : ChangeSpec := { name := "fnExactFirstLabels", fn := fun _ => fun
  | [d] => { results := [.lit (.bool false)], args := [d] }
  | _ => none }
def FnExactFirstLabelsWrongFalsely : Prop := fnExactFirstLabelsRow.holds Try.pinned (OpenSpec.ofChange fnExactFirstLabelsWrong)

/-- 'laws.FnExactLeastBack': WHATEVER THE INPUT: true; the input reads as it did. -/
def fnExactLeastBackSpec : ChangeSpec := { name := "fnExactLeastBack", fn := fun _ => fun
  | [d1, d2] => { results := [.lit (.bool true)], args := [d1, d2] }
  | _ => none }
def fnExactLeastBackRow : OpenClaim := { program := "ytkmojdkkiolalaa", sum := "c3c1ed6b51fe503207315adc72843c92f4690da86a5d77ba9b3237100544a90c", func := "loop.example/g01115/laws.FnExactLeastBack", spec := "fnExactLeastBack", unfollowed := true, recurses := true, apart := false }
def FnExactLeastBackSaid : Prop := fnExactLeastBackRow.holds Try.pinned (OpenSpec.ofChange fnExactLeastBackSpec)

/-- ITS FALSE NEIGHBOUR: 'it returns false'. Refute it at one input. -/
def fnExactLeastBackWrong : ChangeSpec := { name := "fnExactLeastBack", fn := fun _ => fun
  | [d1, d2] => { results := [.lit (.bool false)], args := [d1, d2] }
  | _ => none }
def FnExactLeastBackWrongFalsely : Prop := fnExactLeastBackRow.holds Try.pinned (OpenSpec.ofChange fnExactLeastBackWrong)

/-- 'laws.FnExactDefectOf': WHATEVER THE INPUT: true; the input reads as it did. -/
def fnExactDefectOfSpec : ChangeSpec := { name := "fnExactDefectOf", fn := fun _ => fun
  | [d1, d2] => { results := [.lit (.bool true)], args := [d1, d2] }
  | _ => none }
def fnExactDefectOfRow : OpenClaim := { program := "ytkmojdkkiolalaa", sum := "c3c1ed6b51fe503207315adc72843c92f4690da86a5d77ba9b3237100544a90c", func := "loop.example/g01115/laws.FnExactDefectOf", spec := "fnExactDefectOf", unfollowed := true, recurses := true, apart := false }
def FnExactDefectOfSaid : Prop := fnExactDefectOfRow.holds Try.pinned (OpenSpec.ofChange fnExactDefectOfSpec)

/-- ITS FALSE NEIGHBOUR: 'it returns false'. Refute it at one input. -/
def fnExactDefectOfWrong : ChangeSpec := { name := "fnExactDefectOf", fn := fun _ => fun
  | [d1, d2] => { results := [.lit (.bool false)], args := [d1, d2] }
  | _ => none }
def FnExactDefectOfWrongFalsely : Prop := fnExactDefectOfRow.holds Try.pinned (OpenSpec.ofChange fnExactDefectOfWrong)

/-- 'laws.FnExactPlacesNeeded': WHATEVER THE INPUT: true; the input reads as it did. -/
def fnExactPlacesNeededSpec : ChangeSpec := { name := "fnExactPlacesNeeded", fn := fun _ => fun
  | [d] => { results := [.lit (.bool true)], args := [d] }
  | _ => none }
def fnExactPlacesNeededRow : OpenClaim := { program := "ytkmojdkkiolalaa", sum := "c3c1ed6b51fe503207315adc72843c92f4690da86a5d77ba9b3237100544a90c", func := "loop.example/g01115/laws.FnExactPlacesNeeded", spec := "fnExactPlacesNeeded", unfollowed := true, recurses := true, apart := false }
def FnExactPlacesNeededSaid : Prop := fnExactPlacesNeededRow.holds Try.pinned (OpenSpec.ofChange fnExactPlacesNeededSpec)

/-- ITS FALSE NEIGHBOUR: 'it returns false'. Refute it at one input. -/
def fnExactPlacesNeededWrong : ChangeSpec := { name := "fnExactPlacesNeeded", fn := fun _ => fun
  | [d] => { results := [.lit (.bool false)], args := [d] }
  | _ => none }
def FnExactPlacesNeededWrongFalsely : Prop := fnExactPlacesNeededRow.holds Try.pinned (OpenSpec.ofChange fnExactPlacesNeededWrong)

/-- 'laws.FnExactTurnHeights': WHATEVER THE INPUT: true; the input reads as it did. -/
def fnExactTurnHeightsSpec : ChangeSpec := { name := "fnExactTurnHeights", fn := fun _ => fun
  | [d] => { results := [.lit (.bool true)], args := [d] }
  | _ => none }
def fnExactTurnHeightsRow : OpenClaim := { program := "ytkmojdkkiolalaa", sum := "c3c1ed6b51fe503207315adc72843c92f4690da86a5d77ba9b3237100544a90c", func := "loop.example/g01115/laws.FnExactTurnHeights", spec := "fnExactTurnHeights", unfollowed := true, recurses := true, apart := false }
def FnExactTurnHeightsSaid : Prop := fnExactTurnHeightsRow.holds Try.pinned (OpenSpec.ofChange fnExactTurnHeightsSpec)

/-- ITS FALSE NEIGHBOUR: 'it returns false'. Refute it at one input. -/
def fnExactTurnHeightsWrong : ChangeSpec := { name := "fnExactTurnHeights", fn := fun _ => fun
  | [d] => { results := [.lit (.bool false)], args := [d] }
  | _ => none }
def FnExactTurnHeightsWrongFalsely : Prop := fnExactTurnHeightsRow.holds Try.pinned (OpenSpec.ofChange fnExactTurnHeightsWrong)

/-- 'laws.FnExactIsLongParking': WHATEVER THE INPUT: true; the input reads as it did. -/
def fnExactIsLongParkingSpec : ChangeSpec := { name := "fnExactIsLongParking", fn := fun _ => fun
  | [d1, d2] => { results := [.lit (.bool true)], args := [d1, d2] }
  | _ => none }
def fnExactIsLongParkingRow : OpenClaim := { program := "ytkmojdkkiolalaa", sum := "c3c1ed6b51fe503207315adc72843c92f4690da86a5d77ba9b3237100544a90c", func := "loop.example/g01115/laws.FnExactIsLongParking", spec := "fnExactIsLongParking", unfollowed := true, recurses := true, apart := false }
def FnExactIsLongParkingSaid : Prop := fnExactIsLongParkingRow.holds Try.pinned (OpenSpec.ofChange fnExactIsLongParkingSpec)

/-- ITS FALSE NEIGHBOUR: 'it returns false'. Refute it at one input. -/
def fnExactIsLongParkingWrong : ChangeSpec := { name := "fnExactIsLongParking", fn := fun _ => fun
  | [d1, d2] => { results := [.lit (.bool false)], args := [d1, d2] }
  | _ => none }
def FnExactIsLongParkingWrongFalsely : Prop := fnExactIsLongParkingRow.holds Try.pinned (OpenSpec.ofChange fnExactIsLongParkingWrong)

/-- 'laws.FnExactDriveBack': WHATEVER THE INPUT: true; the input reads as it did. -/
def fnExactDriveBackSpec : ChangeSpec := { name := "fnExactDriveBack", fn := fun _ => fun
  | [d1, d2, d3] => { results := [.lit (.bool true)], args := [d1, d2, d3] }
  | _ => none }
def fnExactDriveBackRow : OpenClaim := { program := "ytkmojdkkiolalaa", sum := "c3c1ed6b51fe503207315adc72843c92f4690da86a5d77ba9b3237100544a90c", func := "loop.example/g01115/laws.FnExactDriveBack", spec := "fnExactDriveBack", unfollowed := true, recurses := true, apart := false }
def FnExactDriveBackSaid : Prop := fnExactDriveBackRow.holds Try.pinned (OpenSpec.ofChange fnExactDriveBackSpec)

/-- ITS FALSE NEIGHBOUR: 'it returns false'. Refute it at one input. -/
def fnExactDriveBackWrong : ChangeSpec := { name := "fnExactDriveBack", fn := fun _ => fun
  | [d1, d2, d3] => { results := [.lit (.bool false)], args := [d1, d2, d3] }
  | _ => none }
def FnExactDriveBackWrongFalsely : Prop := fnExactDriveBackRow.holds Try.pinned (OpenSpec.ofChange fnExactDriveBackWrong)

/-- 'laws.FnExactBlockedCar': WHATEVER THE INPUT: true; the input reads as it did. -/
def fnExactBlockedCarSpec : ChangeSpec := { name := "fnExactBlockedCar", fn := fun _ => fun
  | [d1, d2] => { results := [.lit (.bool true)], args := [d1, d2] }
  | _ => none }
def fnExactBlockedCarRow : OpenClaim := { program := "ytkmojdkkiolalaa", sum := "c3c1ed6b51fe503207315adc72843c92f4690da86a5d77ba9b3237100544a90c", func := "loop.example/g01115/laws.FnExactBlockedCar", spec := "fnExactBlockedCar", unfollowed := true, recurses := true, apart := false }
def FnExactBlockedCarSaid : Prop := fnExactBlockedCarRow.holds Try.pinned (OpenSpec.ofChange fnExactBlockedCarSpec)

/-- ITS FALSE NEIGHBOUR: 'it returns false'. Refute it at one input. -/
def fnExactBlockedCarWrong : ChangeSpec := { name := "fnExactBlockedCar", fn := fun _ => fun
  | [d1, d2] => { results := [.lit (.bool false)], args := [d1, d2] }
  | _ => none }
def FnExactBlockedCarWrongFalsely : Prop := fnExactBlockedCarRow.holds Try.pinned (OpenSpec.ofChange fnExactBlockedCarWrong)

/-- 'laws.FnExactTreeOfParking': WHATEVER THE INPUT: true; the input reads as it did. -/
def fnExactTreeOfParkingSpec : ChangeSpec := { name := "fnExactTreeOfParking", fn := fun _ => fun
  | [d] => { results := [.lit (.bool true)], args := [d] }
  | _ => none }
def fnExactTreeOfParkingRow : OpenClaim := { program := "ytkmojdkkiolalaa", sum := "c3c1ed6b51fe503207315adc72843c92f4690da86a5d77ba9b3237100544a90c", func := "loop.example/g01115/laws.FnExactTreeOfParking", spec := "fnExactTreeOfParking", unfollowed := true, recurses := true, apart := false }
def FnExactTreeOfParkingSaid : Prop := fnExactTreeOfParkingRow.holds Try.pinned (OpenSpec.ofChange fnExactTreeOfParkingSpec)

/-- ITS FALSE NEIGHBOUR: 'it returns false'. Refute it at one input. -/
def fnExactTreeOfParkingWrong : ChangeSpec := { name := "fnExactTreeOfParking", fn := fun _ => fun
  | [d] => { results := [.lit (.bool false)], args := [d] }
  | _ => none }
def FnExactTreeOfParkingWrongFalsely : Prop := fnExactTreeOfParkingRow.holds Try.pinned (OpenSpec.ofChange fnExactTreeOfParkingWrong)

/-- 'laws.FnExactLeavesOf': WHATEVER THE INPUT: true; the input reads as it did. -/
def fnExactLeavesOfSpec : ChangeSpec := { name := "fnExactLeavesOf", fn := fun _ => fun
  | [d] => { results := [.lit (.bool true)], args := [d] }
  | _ => none }
def fnExactLeavesOfRow : OpenClaim := { program := "ytkmojdkkiolalaa", sum := "c3c1ed6b51fe503207315adc72843c92f4690da86a5d77ba9b3237100544a90c", func := "loop.example/g01115/laws.FnExactLeavesOf", spec := "fnExactLeavesOf", unfollowed := true, recurses := true, apart := false }
def FnExactLeavesOfSaid : Prop := fnExactLeavesOfRow.holds Try.pinned (OpenSpec.ofChange fnExactLeavesOfSpec)

/-- ITS FALSE NEIGHBOUR: 'it returns false'. Refute it at one input. -/
def fnExactLeavesOfWrong : ChangeSpec := { name := "fnExactLeavesOf", fn := fun _ => fun
  | [d] => { results := [.lit (.bool false)], args := [d] }
  | _ => none }
def FnExactLeavesOfWrongFalsely : Prop := fnExactLeavesOfRow.holds Try.pinned (OpenSpec.ofChange fnExactLeavesOfWrong)

/-- 'laws.FnExactDegreesOf': WHATEVER THE INPUT: true; the input reads as it did. -/
def fnExactDegreesOfSpec : ChangeSpec := { name := "fnExactDegreesOf", fn := fun _ => fun
  | [d] => { results := [.lit (.bool true)], args := [d] }
  | _ => none }
def fnExactDegreesOfRow : OpenClaim := { program := "ytkmojdkkiolalaa", sum := "c3c1ed6b51fe503207315adc72843c92f4690da86a5d77ba9b3237100544a90c", func := "loop.example/g01115/laws.FnExactDegreesOf", spec := "fnExactDegreesOf", unfollowed := true, recurses := true, apart := false }
def FnExactDegreesOfSaid : Prop := fnExactDegreesOfRow.holds Try.pinned (OpenSpec.ofChange fnExactDegreesOfSpec)

/-- ITS FALSE NEIGHBOUR: 'it returns false'. Refute it at one input. -/
def fnExactDegreesOfWrong : ChangeSpec := { name := "fnExactDegreesOf", fn := fun _ => fun
  | [d] => { results := [.lit (.bool false)], args := [d] }
  | _ => none }
def FnExactDegreesOfWrongFalsely : Prop := fnExactDegreesOfRow.holds Try.pinned (OpenSpec.ofChange fnExactDegreesOfWrong)

/- THE SECOND FORM. 'bulk': how many values and letters a reading holds, each counted each time it is reached (what is shared counts as often as it is met; a slice's spare places count too). A statement '..UptoSaid' is the law's where the arguments, and the package variables that the reading takes, are together of bulk at most 1048576: NARROWER than '..Said'. Prove '..Said' where nothing that the law and all that it calls make is longer than what came in: it says more and counts as full. Else prove '..UptoSaid'. A law counts once. -/
mutual
def uptoBulk {H : Type} : DataW H → Nat
  | .lit (.string bytes) => bytes.length + 1
  | .lit _ => 1
  | .nil => 1
  | .ptr d => uptoBulk d + 1
  | .slice elems spare => uptoBulkAll elems + uptoBulkAll spare + 1
  | .agg parts => uptoBulkAll parts + 1
  | .iface _ d => uptoBulk d + 1
  | .map entries => uptoBulkEntries entries + 1
  | .held _ => 1
def uptoBulkAll {H : Type} : List (DataW H) → Nat
  | [] => 0
  | d :: r => uptoBulk d + uptoBulkAll r
def uptoBulkEntries {H : Type} : List (Lit × DataW H) → Nat
  | [] => 0
  | x :: r => uptoBulkEntry x + uptoBulkEntries r
def uptoBulkEntry {H : Type} : Lit × DataW H → Nat
  | (.string bytes, d) => bytes.length + uptoBulk d + 1
  | (_, d) => uptoBulk d + 1
 end
def uptoSmall : (H : Type) → List (DataW H) → Bool := fun _ ds => decide (uptoBulkAll ds ≤ 1048576)
def OpenSpec.upto (s : _root_.Go.ChangeSpec) : _root_.Go.OpenSpec := { _root_.Go.OpenSpec.ofChange s with cond := some uptoSmall }

/-- 'laws.FnExactDriveSome', WHERE WHAT IT READS IS OF BULK AT MOST 1048576: true; the input reads as it did. -/
def fnExactDriveSomeUptoRow : OpenClaim := { program := "ytkmojdkkiolalaa", sum := "c3c1ed6b51fe503207315adc72843c92f4690da86a5d77ba9b3237100544a90c", func := "loop.example/g01115/laws.FnExactDriveSome", spec := "fnExactDriveSome", unfollowed := true, recurses := true, apart := false, narrowed := true }
def FnExactDriveSomeUptoSaid : Prop := fnExactDriveSomeUptoRow.holds Try.pinned (OpenSpec.upto fnExactDriveSomeSpec)

/-- 'laws.FnExactFirstLabels', WHERE WHAT IT READS IS OF BULK AT MOST 1048576: true; the input reads as it did. -/
def fnExactFirstLabelsUptoRow : OpenClaim := { program := "ytkmojdkkiolalaa", sum := "c3c1ed6b51fe503207315adc72843c92f4690da86a5d77ba9b3237100544a90c", func := "loop.example/g01115/laws.FnExactFirstLabels", spec := "fnExactFirstLabels", apart := false, narrowed := true }
def FnExactFirstLabelsUptoSaid : Prop := fnExactFirstLabelsUptoRow.holds Try.pinned (OpenSpec.upto fnExactFirstLabelsSpec)

/-- 'laws.FnExactLeastBack', WHERE WHAT IT READS IS OF BULK AT MOST 1048576: true; the input reads as it did. -/
def fnExactLeastBackUptoRow : OpenClaim := { program := "ytkmojdkkiolalaa", sum := "c3c1ed6b51fe503207315adc72843c92f4690da86a5d77ba9b3237100544a90c", func := "loop.example/g01115/laws.FnExactLeastBack", spec := "fnExactLeastBack", unfollowed := true, recurses := true, apart := false, narrowed := true }
def FnExactLeastBackUptoSaid : Prop := fnExactLeastBackUptoRow.holds Try.pinned (OpenSpec.upto fnExactLeastBackSpec)

/-- 'laws.FnExactDefectOf', WHERE WHAT IT READS IS OF BULK AT MOST 1048576: true; the input reads as it did. -/
def fnExactDefectOfUptoRow : OpenClaim := { program := "ytkmojdkkiolalaa", sum := "c3c1ed6b51fe503207315adc72843c92f4690da86a5d77ba9b3237100544a90c", func := "loop.example/g01115/laws.FnExactDefectOf", spec := "fnExactDefectOf", unfollowed := true, recurses := true, apart := false, narrowed := true }
def FnExactDefectOfUptoSaid : Prop := fnExactDefectOfUptoRow.holds Try.pinned (OpenSpec.upto fnExactDefectOfSpec)

/-- 'laws.FnExactPlacesNeeded', WHERE WHAT IT READS IS OF BULK AT MOST 1048576: true; the input reads as it did. -/
def fnExactPlacesNeededUptoRow : OpenClaim := { program := "ytkmojdkkiolalaa", sum := "c3c1ed6b51fe503207315adc72843c92f4690da86a5d77ba9b3237100544a90c", func := "loop.example/g01115/laws.FnExactPlacesNeeded", spec := "fnExactPlacesNeeded", unfollowed := true, recurses := true, apart := false, narrowed := true }
def FnExactPlacesNeededUptoSaid : Prop := fnExactPlacesNeededUptoRow.holds Try.pinned (OpenSpec.upto fnExactPlacesNeededSpec)

/-- 'laws.FnExactTurnHeights', WHERE WHAT IT READS IS OF BULK AT MOST 1048576: true; the input reads as it did. -/
def fnExactTurnHeightsUptoRow : OpenClaim := { program := "ytkmojdkkiolalaa", sum := "c3c1ed6b51fe503207315adc72843c92f4690da86a5d77ba9b3237100544a90c", func := "loop.example/g01115/laws.FnExactTurnHeights", spec := "fnExactTurnHeights", unfollowed := true, recurses := true, apart := false, narrowed := true }
def FnExactTurnHeightsUptoSaid : Prop := fnExactTurnHeightsUptoRow.holds Try.pinned (OpenSpec.upto fnExactTurnHeightsSpec)

/-- 'laws.FnExactIsLongParking', WHERE WHAT IT READS IS OF BULK AT MOST 1048576: true; the input reads as it did. -/
def fnExactIsLongParkingUptoRow : OpenClaim := { program := "ytkmojdkkiolalaa", sum := "c3c1ed6b51fe503207315adc72843c92f4690da86a5d77ba9b3237100544a90c", func := "loop.example/g01115/laws.FnExactIsLongParking", spec := "fnExactIsLongParking", unfollowed := true, recurses := true, apart := false, narrowed := true }
def FnExactIsLongParkingUptoSaid : Prop := fnExactIsLongParkingUptoRow.holds Try.pinned (OpenSpec.upto fnExactIsLongParkingSpec)

/-- 'laws.FnExactDriveBack', WHERE WHAT IT READS IS OF BULK AT MOST 1048576: true; the input reads as it did. -/
def fnExactDriveBackUptoRow : OpenClaim := { program := "ytkmojdkkiolalaa", sum := "c3c1ed6b51fe503207315adc72843c92f4690da86a5d77ba9b3237100544a90c", func := "loop.example/g01115/laws.FnExactDriveBack", spec := "fnExactDriveBack", unfollowed := true, recurses := true, apart := false, narrowed := true }
def FnExactDriveBackUptoSaid : Prop := fnExactDriveBackUptoRow.holds Try.pinned (OpenSpec.upto fnExactDriveBackSpec)

/-- 'laws.FnExactBlockedCar', WHERE WHAT IT READS IS OF BULK AT MOST 1048576: true; the input reads as it did. -/
def fnExactBlockedCarUptoRow : OpenClaim := { program := "ytkmojdkkiolalaa", sum := "c3c1ed6b51fe503207315adc72843c92f4690da86a5d77ba9b3237100544a90c", func := "loop.example/g01115/laws.FnExactBlockedCar", spec := "fnExactBlockedCar", unfollowed := true, recurses := true, apart := false, narrowed := true }
def FnExactBlockedCarUptoSaid : Prop := fnExactBlockedCarUptoRow.holds Try.pinned (OpenSpec.upto fnExactBlockedCarSpec)

/-- 'laws.FnExactTreeOfParking', WHERE WHAT IT READS IS OF BULK AT MOST 1048576: true; the input reads as it did. -/
def fnExactTreeOfParkingUptoRow : OpenClaim := { program := "ytkmojdkkiolalaa", sum := "c3c1ed6b51fe503207315adc72843c92f4690da86a5d77ba9b3237100544a90c", func := "loop.example/g01115/laws.FnExactTreeOfParking", spec := "fnExactTreeOfParking", unfollowed := true, recurses := true, apart := false, narrowed := true }
def FnExactTreeOfParkingUptoSaid : Prop := fnExactTreeOfParkingUptoRow.holds Try.pinned (OpenSpec.upto fnExactTreeOfParkingSpec)

/-- 'laws.FnExactLeavesOf', WHERE WHAT IT READS IS OF BULK AT MOST 1048576: true; the input reads as it did. -/
def fnExactLeavesOfUptoRow : OpenClaim := { program := "ytkmojdkkiolalaa", sum := "c3c1ed6b51fe503207315adc72843c92f4690da86a5d77ba9b3237100544a90c", func := "loop.example/g01115/laws.FnExactLeavesOf", spec := "fnExactLeavesOf", unfollowed := true, recurses := true, apart := false, narrowed := true }
def FnExactLeavesOfUptoSaid : Prop := fnExactLeavesOfUptoRow.holds Try.pinned (OpenSpec.upto fnExactLeavesOfSpec)

/-- 'laws.FnExactDegreesOf', WHERE WHAT IT READS IS OF BULK AT MOST 1048576: true; the input reads as it did. -/
def fnExactDegreesOfUptoRow : OpenClaim := { program := "ytkmojdkkiolalaa", sum := "c3c1ed6b51fe503207315adc72843c92f4690da86a5d77ba9b3237100544a90c", func := "loop.example/g01115/laws.FnExactDegreesOf", spec := "fnExactDegreesOf", unfollowed := true, recurses := true, apart := false, narrowed := true }
def FnExactDegreesOfUptoSaid : Prop := fnExactDegreesOfUptoRow.holds Try.pinned (OpenSpec.upto fnExactDegreesOfSpec)

end Rows
end Go.Proofs.Ytkmojdkkiolalaa
