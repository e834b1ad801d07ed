-- Written by a program of this session for this claim (its own turn of the print).
import Derived.Test.YtfgkcgedkhpigaaProg
import Derived.Below
import Derived.Deep.Draws
import Derived.Deep.AppendLies
import Derived.Maps.AppendAt
import Derived.OwnWalk
import Derived.Laws.BytesArg
import Derived.Laws.MakeOwn
import Derived.Laws.OwnMore
import Derived.Deep.OwnRows
import Derived.Tactics
import Derived.Lib.ConvBytes
import Derived.Laws.Slices
import Derived.WalkKit
import Derived.KernelRfl
import Derived.RowKit3
import Derived.Deep.LoopGhost
import Derived.Deep.QuietTactic
import Derived.BigQuiet
import Derived.WideLaws
import Derived.Deep.DeepCutAuto
import Derived.Deep.CutBlock
import Derived.Deep.RegionHeld3
import Derived.Laws.Rows
import Derived.Lib.AppendStr
import Derived.ArgAppend
import Derived.Laws.IdiomCopy
import Derived.OrdersHeld
import Derived.Laws.BitsLemmas
import Derived.RowKit
import Derived.Shelf.Abstract
import Derived.Lib.SliceRun
import Derived.RangeFuncBox
import Derived.RangeFuncLeaves
import Derived.RangeFuncWrites
import Derived.OwnWalkIn
import Derived.TacticsInMore
import Derived.LoopNIn
import Derived.LoopIn
import Derived.Maps.AppendAt
import Derived.Shelf.Sort.Plain
import Derived.Shelf.Slices.In.SortNone
import Derived.Shelf.Lay
import Derived.Ground.NamesProg
import Derived.Lib.SortBridge
import Derived.Shelf.Bits.Mul64
import Derived.Laws.CopyOwn
import Derived.Deep.RegionLaw
import Derived.RangeFuncNested
import Derived.RangeFuncBound
import Derived.Test.YtfgkcgedkhpigaaWWords
import Derived.Test.YtfgkcgedkhpigaaWLast
import Derived.Test.YtfgkcgedkhpigaaWTab
import Derived.Test.YtfgkcgedkhpigaaWFour
import Derived.Test.YtfgkcgedkhpigaaWQPut
import Derived.Test.YtfgkcgedkhpigaaWApart
import Derived.Test.YtfgkcgedkhpigaaWArr
import Derived.Test.YtfgkcgedkhpigaaWZeros
import Derived.Test.YtfgkcgedkhpigaaWFoot
import Derived.Test.YtfgkcgedkhpigaaWKept
import Derived.Test.YtfgkcgedkhpigaaWShare
import Derived.Test.YtfgkcgedkhpigaaWN
import Derived.Test.YtfgkcgedkhpigaaWFootNe
import Derived.Test.YtfgkcgedkhpigaaWAt
import Derived.Test.YtfgkcgedkhpigaaWEqStruct
import Derived.Test.YtfgkcgedkhpigaaWRepsOne
import Derived.Test.YtfgkcgedkhpigaaWInv
import Derived.Test.YtfgkcgedkhpigaaWInvWords
import Derived.Test.YtfgkcgedkhpigaaWGuard
import Derived.Test.YtfgkcgedkhpigaaWNEv
import Derived.Test.YtfgkcgedkhpigaaWMore
namespace Go.Proofs.Ytfgkcgedkhpigaa.PFnExactRelabelTree
open Go.RowKit Go.Proofs.YtfgkcgedkhpigaaW.PrintWords Go.Proofs.YtfgkcgedkhpigaaW.PrintLast Go.Proofs.YtfgkcgedkhpigaaW.PrintMore
attribute [local go_sem] max2_int min2_int max_two min_two max_three min_three max_four min_four   -- for this text's walks alone
set_option linter.unusedVariables false
set_option linter.unusedSimpArgs false



def errW : Option Int → Value
  | none => .nilIface
  | some c => .iface 0 (.int .i64 c)
theorem errW_none : errW none = .nilIface := rfl
theorem errW_some (c : Int) : errW (some c) = .iface 0 (.int .i64 c) := rfl

theorem info3 : (Try.prog.info? 3).map (fun i => (i.zero, i.size, i.bytes)) = some (some (.int .i64 0), 1, 8) := by kernel_rfl
-- the values' own types

end Go.Proofs.Ytfgkcgedkhpigaa.PFnExactRelabelTree
