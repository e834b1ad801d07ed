-- Written by a program of this session for this claim (its own turn of the print).
import Derived.Test.YtkbdjbmalpkkfaaProg
import Derived.Below
import Derived.Deep.Draws
import Derived.Deep.AppendLies
import Derived.Maps.AppendAt
import Derived.OwnWalk
import Derived.Laws.BytesArg
import Derived.Laws.MakeOwn
import Derived.Laws.OwnMore
import Derived.Deep.OwnRows
import Derived.Tactics
import Derived.Lib.ConvBytes
import Derived.Laws.Slices
import Derived.WalkKit
import Derived.KernelRfl
import Derived.RowKit3
import Derived.Deep.LoopGhost
import Derived.Deep.QuietTactic
import Derived.BigQuiet
import Derived.WideLaws
import Derived.Deep.DeepCutAuto
import Derived.Deep.CutBlock
import Derived.Deep.RegionHeld3
import Derived.Laws.Rows
import Derived.Lib.AppendStr
import Derived.ArgAppend
import Derived.Laws.IdiomCopy
import Derived.OrdersHeld
import Derived.Laws.BitsLemmas
import Derived.RowKit
import Derived.Shelf.Abstract
import Derived.Lib.SliceRun
import Derived.RangeFuncBox
import Derived.RangeFuncLeaves
import Derived.RangeFuncWrites
import Derived.OwnWalkIn
import Derived.TacticsInMore
import Derived.LoopNIn
import Derived.LoopIn
import Derived.Maps.AppendAt
import Derived.Shelf.Sort.Plain
import Derived.Shelf.Slices.In.SortNone
import Derived.Shelf.Lay
import Derived.Ground.NamesProg
import Derived.Lib.SortBridge
import Derived.Shelf.Bits.Mul64
import Derived.Laws.CopyOwn
import Derived.Deep.RegionLaw
import Derived.RangeFuncNested
import Derived.RangeFuncBound
import Derived.Test.YtkbdjbmalpkkfaaVFnParkingIsWalksWords
import Derived.Test.YtkbdjbmalpkkfaaVFnParkingIsWalksLast
import Derived.Test.YtkbdjbmalpkkfaaVFnParkingIsWalksTab
import Derived.Test.YtkbdjbmalpkkfaaVFnParkingIsWalksFour
import Derived.Test.YtkbdjbmalpkkfaaVFnParkingIsWalksQPut
import Derived.Test.YtkbdjbmalpkkfaaVFnParkingIsWalksApart
import Derived.Test.YtkbdjbmalpkkfaaVFnParkingIsWalksArr
import Derived.Test.YtkbdjbmalpkkfaaVFnParkingIsWalksZeros
import Derived.Test.YtkbdjbmalpkkfaaVFnParkingIsWalksFoot
import Derived.Test.YtkbdjbmalpkkfaaVFnParkingIsWalksKept
import Derived.Test.YtkbdjbmalpkkfaaVFnParkingIsWalksShare
import Derived.Test.YtkbdjbmalpkkfaaVFnParkingIsWalksN
import Derived.Test.YtkbdjbmalpkkfaaVFnParkingIsWalksFootNe
import Derived.Test.YtkbdjbmalpkkfaaVFnParkingIsWalksAt
import Derived.Test.YtkbdjbmalpkkfaaVFnParkingIsWalksEqStruct
import Derived.Test.YtkbdjbmalpkkfaaVFnParkingIsWalksRepsOne
import Derived.Test.YtkbdjbmalpkkfaaVFnParkingIsWalksInv
import Derived.Test.YtkbdjbmalpkkfaaVFnParkingIsWalksInvWords
import Derived.Test.YtkbdjbmalpkkfaaVFnParkingIsWalksGuard
import Derived.Test.YtkbdjbmalpkkfaaVFnParkingIsWalksNEv
import Derived.Test.YtkbdjbmalpkkfaaVFnParkingIsWalksMore
namespace Go.Proofs.Ytkbdjbmalpkkfaa.PFnParkingIsWalks
open Go.RowKit Go.Proofs.YtkbdjbmalpkkfaaW.PrintWords Go.Proofs.YtkbdjbmalpkkfaaW.PrintLast Go.Proofs.YtkbdjbmalpkkfaaW.PrintMore
attribute [local go_sem] max2_int min2_int max_two min_two max_three min_three max_four min_four   -- for this text's walks alone
set_option linter.unusedVariables false
set_option linter.unusedSimpArgs false



def errW : Option Int → Value
  | none => .nilIface
  | some c => .iface 0 (.int .i64 c)
theorem errW_none : errW none = .nilIface := rfl
theorem errW_some (c : Int) : errW (some c) = .iface 0 (.int .i64 c) := rfl

theorem info3 : (Try.prog.info? 3).map (fun i => (i.zero, i.size, i.bytes)) = some (some (.int .i64 0), 1, 8) := by kernel_rfl
theorem info4 : (Try.prog.info? 4).map (fun i => (i.zero, i.size, i.bytes)) = some (some (.bool false), 1, 1) := by kernel_rfl
-- the values' own types

/-- The world ahead, and what holds behind allocations and draws (told as an instance, so that a term finds it). -/
def Src (W : World) (_ _ : Unit) : Prop := True
def Dst (w W : World) (_ _ : Unit) : Prop := Below w.heap.size w W
theorem beh {w W : World} [t : Trans (Src W) (Src W) (Dst w W)] : Below w.heap.size w W := t.trans (a := ()) (b := ()) (c := ()) trivial trivial
instance (priority := low) beh_refl (w : World) : Trans (Src w) (Src w) (Dst w w) := ⟨fun _ _ => Below.refl _ _⟩
instance beh_drew (w W : World) [h : Trans (Src W) (Src W) (Dst w W)] : Trans (Src W.drew) (Src W.drew) (Dst w W.drew) := ⟨fun _ _ => below_drew (beh (w := w) (W := W))⟩
instance beh_drewN (w W : World) (n : Nat) [h : Trans (Src W) (Src W) (Dst w W)] : Trans (Src (W.drewN n)) (Src (W.drewN n)) (Dst w (W.drewN n)) := ⟨fun _ _ => pw_below_drewN (beh (w := w) (W := W)) n⟩
instance beh_alloc (w W : World) (o : Obj) [h : Trans (Src W) (Src W) (Dst w W)] : Trans (Src (W.alloc o)) (Src (W.alloc o)) (Dst w (W.alloc o)) := ⟨fun _ _ => below_alloc (beh (w := w) (W := W)) o⟩
theorem rbW {α : Type} {d : Kd α} {e : Nat} {w W : World} {base : Nat} {ok : Nat → Prop} {v : Value} {xs : List α} [Trans (Src W) (Src W) (Dst w W)] (h : d.R e w base ok v xs) : d.R e W base ok v xs := Kd.R_below h beh
theorem cbW {α : Type} {d : Kd α} {w W : World} {A : Option Addr} {n : Nat} {xs : List α} [Trans (Src W) (Src W) (Dst w W)] (h : d.C w A n xs) : d.C W A n xs := Kd.C_below h beh
theorem kbW {w W : World} {g : Nat} {o : Obj} [Trans (Src W) (Src W) (Dst w W)] (h : w.heap[g]? = some o) : W.heap[g]? = some o := blk_below h beh
theorem nbW {w0 w W : World} [Trans (Src W) (Src W) (Dst w W)] (h : Below w0.heap.size w0 w) : Below w0.heap.size w0 W := h.trans (beh.mono h.size)

end Go.Proofs.Ytkbdjbmalpkkfaa.PFnParkingIsWalks
