/-
  No cell of these rows narrows 'for every input' (looked for: loops, veiled, ifaces, maps, wideKeys, modest, calm, conditions, laid).
  DERIVED. THE GIVEN ROWS OF THIS SEAT. 7 by the template 'for every input the law returns true; each argument reads behind the call as it read before'; 0 by the template 'total and deterministic' (their statements: YtljggaekcojpnaaTotals.lean).
  GIVEN WITH THE SEED: the statements are not yours to turn. If you find one false, say at which input.
  Laid BY PROGRAM, IN A SANDBOX (cutbox-rows.mjs): the forced cells as the released guide's own fill.sh prints them over the translation f24d559adcb4db4c… (all of the seat's roots in one cut). By AI agents, Wed Nov 11 2026. No macro, syntax, notation, axiom, sorry.
-/
import Derived.Test.YtljggaekcojpnaaChecked
import GoSem.Claim
import GoSem.ClaimJoined
import GoSem.ClaimMapViews
import Derived.JoinedTies
import Derived.KernelRfl
namespace Go.Proofs.Ytljggaekcojpnaa
/- THE CELL 'sum', in the pinned program and in every row, IS THE sha256 OF THE DUMP (.gsa) THAT YtljggaekcojpnaaProg.lean LOADS. Nothing in Lean hashes anything: it is a label: what it is worth is what the hold of that sum in a sandbox is worth. -/
noncomputable def Try.pinned : Pinned := { name := "ytljggaekcojpnaa", sum := "f24d559adcb4db4c401377d3085dff29c558c506add70bc08d9669244dc7c5e1", checked := Try.checked }
namespace Rows
def none {H : Type} : Left H := { results := [], args := [] }

/-- 'laws.FnExactCountHeights': WHATEVER THE INPUT: true; the input reads as it did. -/
def fnExactCountHeightsSpec : ChangeSpec := { name := "fnExactCountHeights", fn := fun _ => fun
  | [d] => { results := [.lit (.bool true)], args := [d] }
  | _ => none }
def fnExactCountHeightsRow : OpenClaim := { program := "ytljggaekcojpnaa", sum := "f24d559adcb4db4c401377d3085dff29c558c506add70bc08d9669244dc7c5e1", func := "loop.example/g01115/laws.FnExactCountHeights", spec := "fnExactCountHeights", apart := false }
def FnExactCountHeightsSaid : Prop := fnExactCountHeightsRow.holds Try.pinned (OpenSpec.ofChange fnExactCountHeightsSpec)

/-- ITS FALSE NEIGHBOUR: 'it returns false'. Refute it at one input. -/
def fnExactCountHeightsWrong : ChangeSpec := { name := "fnExactCountHeights", fn := fun _ => fun
  | [d] => { results := [.lit (.bool false)], args := [d] }
  | _ => none }
def FnExactCountHeightsWrongFalsely : Prop := fnExactCountHeightsRow.holds Try.pinned (OpenSpec.ofChange fnExactCountHeightsWrong)

/-- 'laws.FnExactAreHeights': WHATEVER THE INPUT: true; the input reads as it did. -/
def fnExactAreHeightsSpec : ChangeSpec := { name := "fnExactAreHeights", fn := fun _ => fun
  | [d] => { results := [.lit (.bool true)], args := [d] }
  | _ => none }
def fnExactAreHeightsRow : OpenClaim := { program := "ytljggaekcojpnaa", sum := "f24d559adcb4db4c401377d3085dff29c558c506add70bc08d9669244dc7c5e1", func := "loop.example/g01115/laws.FnExactAreHeights", spec := "fnExactAreHeights", apart := false }
def FnExactAreHeightsSaid : Prop := fnExactAreHeightsRow.holds Try.pinned (OpenSpec.ofChange fnExactAreHeightsSpec)

/-- ITS FALSE NEIGHBOUR: 'it returns false'. Refute it at one input. -/
def fnExactAreHeightsWrong : ChangeSpec := { name := "fnExactAreHeights", fn := fun _ => fun
  | [d] => { results := [.lit (.bool false)], args := [d] }
  | _ => none }
def FnExactAreHeightsWrongFalsely : Prop := fnExactAreHeightsRow.holds Try.pinned (OpenSpec.ofChange fnExactAreHeightsWrong)

/-- 'laws.FnExactCountLabels': WHATEVER THE INPUT: true; the input reads as it did. -/
def fnExactCountLabelsSpec : ChangeSpec := { name := "fnExactCountLabels", fn := fun _ => fun
  | [d] => { results := [.lit (.bool true)], args := [d] }
  | _ => none }
def fnExactCountLabelsRow : OpenClaim := { program := "ytljggaekcojpnaa", sum := "f24d559adcb4db4c401377d3085dff29c558c506add70bc08d9669244dc7c5e1", func := "loop.example/g01115/laws.FnExactCountLabels", spec := "fnExactCountLabels", apart := false }
def FnExactCountLabelsSaid : Prop := fnExactCountLabelsRow.holds Try.pinned (OpenSpec.ofChange fnExactCountLabelsSpec)

/-- ITS FALSE NEIGHBOUR: 'it returns false'. Refute it at one input. -/
def fnExactCountLabelsWrong : ChangeSpec := { name := "fnExactCountLabels", fn := fun _ => fun
  | [d] => { results := [.lit (.bool false)], args := [d] }
  | _ => none }
def FnExactCountLabelsWrongFalsely : Prop := fnExactCountLabelsRow.holds Try.pinned (OpenSpec.ofChange fnExactCountLabelsWrong)

/-- 'laws.FnExactBounceOf': WHATEVER THE INPUT: true; the input reads as it did. -/
def fnExactBounceOfSpec : ChangeSpec := { name := "fnExactBounceOf", fn := fun _ => fun
  | [d] => { results := [.lit (.bool true)], args := [d] }
  | _ => none }
def fnExactBounceOfRow : OpenClaim := { program := "ytljggaekcojpnaa", sum := "f24d559adcb4db4c401377d3085dff29c558c506add70bc08d9669244dc7c5e1", func := "loop.example/g01115/laws.FnExactBounceOf", spec := "fnExactBounceOf", apart := false }
def FnExactBounceOfSaid : Prop := fnExactBounceOfRow.holds Try.pinned (OpenSpec.ofChange fnExactBounceOfSpec)

/-- ITS FALSE NEIGHBOUR: 'it returns false'. Refute it at one input. -/
def fnExactBounceOfWrong : ChangeSpec := { name := "fnExactBounceOf", fn := fun _ => fun
  | [d] => { results := [.lit (.bool false)], args := [d] }
  | _ => none }
def FnExactBounceOfWrongFalsely : Prop := fnExactBounceOfRow.holds Try.pinned (OpenSpec.ofChange fnExactBounceOfWrong)

/-- 'laws.FnExactCountLong': WHATEVER THE INPUT: true; the input reads as it did. -/
def fnExactCountLongSpec : ChangeSpec := { name := "fnExactCountLong", fn := fun _ => fun
  | [d] => { results := [.lit (.bool true)], args := [d] }
  | _ => none }
def fnExactCountLongRow : OpenClaim := { program := "ytljggaekcojpnaa", sum := "f24d559adcb4db4c401377d3085dff29c558c506add70bc08d9669244dc7c5e1", func := "loop.example/g01115/laws.FnExactCountLong", spec := "fnExactCountLong", unfollowed := true, recurses := true, apart := false }
def FnExactCountLongSaid : Prop := fnExactCountLongRow.holds Try.pinned (OpenSpec.ofChange fnExactCountLongSpec)

/-- ITS FALSE NEIGHBOUR: 'it returns false'. Refute it at one input. -/
def fnExactCountLongWrong : ChangeSpec := { name := "fnExactCountLong", fn := fun _ => fun
  | [d] => { results := [.lit (.bool false)], args := [d] }
  | _ => none }
def FnExactCountLongWrongFalsely : Prop := fnExactCountLongRow.holds Try.pinned (OpenSpec.ofChange fnExactCountLongWrong)

/-- 'laws.FnExactAllHeights': WHATEVER THE INPUT: true; the input reads as it did. -/
def fnExactAllHeightsSpec : ChangeSpec := { name := "fnExactAllHeights", fn := fun _ => fun
  | [d] => { results := [.lit (.bool true)], args := [d] }
  | _ => none }
def fnExactAllHeightsRow : OpenClaim := { program := "ytljggaekcojpnaa", sum := "f24d559adcb4db4c401377d3085dff29c558c506add70bc08d9669244dc7c5e1", func := "loop.example/g01115/laws.FnExactAllHeights", spec := "fnExactAllHeights", recurses := true, apart := false }
def FnExactAllHeightsSaid : Prop := fnExactAllHeightsRow.holds Try.pinned (OpenSpec.ofChange fnExactAllHeightsSpec)

/-- ITS FALSE NEIGHBOUR: 'it returns false'. Refute it at one input. -/
def fnExactAllHeightsWrong : ChangeSpec := { name := "fnExactAllHeights", fn := fun _ => fun
  | [d] => { results := [.lit (.bool false)], args := [d] }
  | _ => none }
def FnExactAllHeightsWrongFalsely : Prop := fnExactAllHeightsRow.holds Try.pinned (OpenSpec.ofChange fnExactAllHeightsWrong)

/-- 'laws.FnExactDoParkBack': WHATEVER THE INPUT: true; the input reads as it did. -/
def fnExactDoParkBackSpec : ChangeSpec := { name := "fnExactDoParkBack", fn := fun _ => fun
  | [d1, d2, d3] => { results := [.lit (.bool true)], args := [d1, d2, d3] }
  | _ => none }
def fnExactDoParkBackRow : OpenClaim := { program := "ytljggaekcojpnaa", sum := "f24d559adcb4db4c401377d3085dff29c558c506add70bc08d9669244dc7c5e1", func := "loop.example/g01115/laws.FnExactDoParkBack", spec := "fnExactDoParkBack", unfollowed := true, recurses := true, apart := false }
def FnExactDoParkBackSaid : Prop := fnExactDoParkBackRow.holds Try.pinned (OpenSpec.ofChange fnExactDoParkBackSpec)

/-- ITS FALSE NEIGHBOUR: 'it returns false'. Refute it at one input. -/
def fnExactDoParkBackWrong : ChangeSpec := { name := "fnExactDoParkBack", fn := fun _ => fun
  | [d1, d2, d3] => { results := [.lit (.bool false)], args := [d1, d2, d3] }
  | _ => none }
def FnExactDoParkBackWrongFalsely : Prop := fnExactDoParkBackRow.holds Try.pinned (OpenSpec.ofChange fnExactDoParkBackWrong)

/- THE SECOND FORM. 'bulk': how many values and letters a reading holds, each counted each time it is reached (what is shared counts as often as it is met; a slice's spare places count too). A statement '..UptoSaid' is the law's where the arguments, and the package variables that the reading takes, are together of bulk at most 1048576: NARROWER than '..Said'. Prove '..Said' where nothing that the law and all that it calls make is longer than what came in: it says more and counts as full. Else prove '..UptoSaid'. A law counts once. -/
mutual
def uptoBulk {H : Type} : DataW H → Nat
  | .lit (.string bytes) => bytes.length + 1
  | .lit _ => 1
  | .nil => 1
  | .ptr d => uptoBulk d + 1
  | .slice elems spare => uptoBulkAll elems + uptoBulkAll spare + 1
  | .agg parts => uptoBulkAll parts + 1
  | .iface _ d => uptoBulk d + 1
  | .map entries => uptoBulkEntries entries + 1
  | .held _ => 1
def uptoBulkAll {H : Type} : List (DataW H) → Nat
  | [] => 0
  | d :: r => uptoBulk d + uptoBulkAll r
def uptoBulkEntries {H : Type} : List (Lit × DataW H) → Nat
  | [] => 0
  | x :: r => uptoBulkEntry x + uptoBulkEntries r
def uptoBulkEntry {H : Type} : Lit × DataW H → Nat
  | (.string bytes, d) => bytes.length + uptoBulk d + 1
  | (_, d) => uptoBulk d + 1
 end
def uptoSmall : (H : Type) → List (DataW H) → Bool := fun _ ds => decide (uptoBulkAll ds ≤ 1048576)
def OpenSpec.upto (s : _root_.Go.ChangeSpec) : _root_.Go.OpenSpec := { _root_.Go.OpenSpec.ofChange s with cond := some uptoSmall }

/-- 'laws.FnExactCountHeights', WHERE WHAT IT READS IS OF BULK AT MOST 1048576: true; the input reads as it did. -/
def fnExactCountHeightsUptoRow : OpenClaim := { program := "ytljggaekcojpnaa", sum := "f24d559adcb4db4c401377d3085dff29c558c506add70bc08d9669244dc7c5e1", func := "loop.example/g01115/laws.FnExactCountHeights", spec := "fnExactCountHeights", apart := false, narrowed := true }
def FnExactCountHeightsUptoSaid : Prop := fnExactCountHeightsUptoRow.holds Try.pinned (OpenSpec.upto fnExactCountHeightsSpec)

/-- 'laws.FnExactAreHeights', WHERE WHAT IT READS IS OF BULK AT MOST 1048576: true; the input reads as it did. -/
def fnExactAreHeightsUptoRow : OpenClaim := { program := "ytljggaekcojpnaa", sum := "f24d559adcb4db4c401377d3085dff29c558c506add70bc08d9669244dc7c5e1", func := "loop.example/g01115/laws.FnExactAreHeights", spec := "fnExactAreHeights", apart := false, narrowed := true }
def FnExactAreHeightsUptoSaid : Prop := fnExactAreHeightsUptoRow.holds Try.pinned (OpenSpec.upto fnExactAreHeightsSpec)

/-- 'laws.FnExactCountLabels', WHERE WHAT IT READS IS OF BULK AT MOST 1048576: true; the input reads as it did. -/
def fnExactCountLabelsUptoRow : OpenClaim := { program := "ytljggaekcojpnaa", sum := "f24d559adcb4db4c401377d3085dff29c558c506add70bc08d9669244dc7c5e1", func := "loop.example/g01115/laws.FnExactCountLabels", spec := "fnExactCountLabels", apart := false, narrowed := true }
def FnExactCountLabelsUptoSaid : Prop := fnExactCountLabelsUptoRow.holds Try.pinned (OpenSpec.upto fnExactCountLabelsSpec)

/-- 'laws.FnExactBounceOf', WHERE WHAT IT READS IS OF BULK AT MOST 1048576: true; the input reads as it did. -/
def fnExactBounceOfUptoRow : OpenClaim := { program := "ytljggaekcojpnaa", sum := "f24d559adcb4db4c401377d3085dff29c558c506add70bc08d9669244dc7c5e1", func := "loop.example/g01115/laws.FnExactBounceOf", spec := "fnExactBounceOf", apart := false, narrowed := true }
def FnExactBounceOfUptoSaid : Prop := fnExactBounceOfUptoRow.holds Try.pinned (OpenSpec.upto fnExactBounceOfSpec)

/-- 'laws.FnExactCountLong', WHERE WHAT IT READS IS OF BULK AT MOST 1048576: true; the input reads as it did. -/
def fnExactCountLongUptoRow : OpenClaim := { program := "ytljggaekcojpnaa", sum := "f24d559adcb4db4c401377d3085dff29c558c506add70bc08d9669244dc7c5e1", func := "loop.example/g01115/laws.FnExactCountLong", spec := "fnExactCountLong", unfollowed := true, recurses := true, apart := false, narrowed := true }
def FnExactCountLongUptoSaid : Prop := fnExactCountLongUptoRow.holds Try.pinned (OpenSpec.upto fnExactCountLongSpec)

/-- 'laws.FnExactAllHeights', WHERE WHAT IT READS IS OF BULK AT MOST 1048576: true; the input reads as it did. -/
def fnExactAllHeightsUptoRow : OpenClaim := { program := "ytljggaekcojpnaa", sum := "f24d559adcb4db4c401377d3085dff29c558c506add70bc08d9669244dc7c5e1", func := "loop.example/g01115/laws.FnExactAllHeights", spec := "fnExactAllHeights", recurses := true, apart := false, narrowed := true }
def FnExactAllHeightsUptoSaid : Prop := fnExactAllHeightsUptoRow.holds Try.pinned (OpenSpec.upto fnExactAllHeightsSpec)

/-- 'laws.FnExactDoParkBack', WHERE WHAT IT READS IS OF BULK AT MOST 1048576: true; the input reads as it did. -/
def fnExactDoParkBackUptoRow : OpenClaim := { program := "ytljggaekcojpnaa", sum := "f24d559adcb4db4c401377d3085dff29c558c506add70bc08d9669244dc7c5e1", func := "loop.example/g01115/laws.FnExactDoParkBack", spec := "fnExactDoParkBack", unfollowed := true, recurses := true, apart := false, narrowed := true }
def FnExactDoParkBackUptoSaid : Prop := fnExactDoParkBackUptoRow.holds Try.pinned (OpenSpec.upto fnExactDoParkBackSpec)

end Rows
end Go.Proofs.Ytljggaekcojpnaa
