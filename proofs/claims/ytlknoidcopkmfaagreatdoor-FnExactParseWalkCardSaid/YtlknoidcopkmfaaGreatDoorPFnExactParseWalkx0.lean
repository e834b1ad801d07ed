-- Written by a program of this session for this claim (its own turn of the print).
import Derived.Test.YtlknoidcopkmfaaGreatDoorProg
import Derived.Below
import Derived.Deep.Draws
import Derived.Deep.AppendLies
import Derived.Maps.AppendAt
import Derived.OwnWalk
import Derived.Laws.BytesArg
import Derived.Laws.MakeOwn
import Derived.Laws.OwnMore
import Derived.Deep.OwnRows
import Derived.Tactics
import Derived.Lib.ConvBytes
import Derived.Laws.Slices
import Derived.WalkKit
import Derived.KernelRfl
import Derived.RowKit3
import Derived.Deep.LoopGhost
import Derived.Deep.QuietTactic
import Derived.BigQuiet
import Derived.WideLaws
import Derived.Deep.DeepCutAuto
import Derived.Deep.CutBlock
import Derived.Deep.RegionHeld3
import Derived.Laws.Rows
import Derived.Lib.AppendStr
import Derived.ArgAppend
import Derived.Laws.IdiomCopy
import Derived.OrdersHeld
import Derived.Laws.BitsLemmas
import Derived.RowKit
import Derived.Shelf.Abstract
import Derived.Lib.SliceRun
import Derived.RangeFuncBox
import Derived.RangeFuncLeaves
import Derived.RangeFuncWrites
import Derived.OwnWalkIn
import Derived.TacticsInMore
import Derived.LoopNIn
import Derived.LoopIn
import Derived.Maps.AppendAt
import Derived.Shelf.Sort.Plain
import Derived.Shelf.Slices.In.SortNone
import Derived.Shelf.Lay
import Derived.Ground.NamesProg
import Derived.Lib.SortBridge
import Derived.Shelf.Bits.Mul64
import Derived.Laws.CopyOwn
import Derived.Deep.RegionLaw
import Derived.RangeFuncNested
import Derived.RangeFuncBound
import Derived.Shelf.Strconv.Itoa3
import Derived.Shelf.Strings.OnBuilder
import Derived.Shelf.Strings.Split
import Derived.Shelf.Strings.Prefix
import Derived.Shelf.Strconv.AtoiAll
import Derived.Lib.AtoiAllCases
import Derived.Lib.SplitLaws
import Derived.Shelf.Strings.Cut
import Derived.Test.YtlknoidcopkmfaaGreatDoorVFnExactParseWalkWords
import Derived.Test.YtlknoidcopkmfaaGreatDoorVFnExactParseWalkLast
import Derived.Test.YtlknoidcopkmfaaGreatDoorVFnExactParseWalkTab
import Derived.Test.YtlknoidcopkmfaaGreatDoorVFnExactParseWalkFour
import Derived.Test.YtlknoidcopkmfaaGreatDoorVFnExactParseWalkQPut
import Derived.Test.YtlknoidcopkmfaaGreatDoorVFnExactParseWalkApart
import Derived.Test.YtlknoidcopkmfaaGreatDoorVFnExactParseWalkArr
import Derived.Test.YtlknoidcopkmfaaGreatDoorVFnExactParseWalkZeros
import Derived.Test.YtlknoidcopkmfaaGreatDoorVFnExactParseWalkFoot
import Derived.Test.YtlknoidcopkmfaaGreatDoorVFnExactParseWalkKept
import Derived.Test.YtlknoidcopkmfaaGreatDoorVFnExactParseWalkShare
import Derived.Test.YtlknoidcopkmfaaGreatDoorVFnExactParseWalkN
import Derived.Test.YtlknoidcopkmfaaGreatDoorVFnExactParseWalkFootNe
import Derived.Test.YtlknoidcopkmfaaGreatDoorVFnExactParseWalkAt
import Derived.Test.YtlknoidcopkmfaaGreatDoorVFnExactParseWalkEqStruct
import Derived.Test.YtlknoidcopkmfaaGreatDoorVFnExactParseWalkRepsOne
import Derived.Test.YtlknoidcopkmfaaGreatDoorVFnExactParseWalkInv
import Derived.Test.YtlknoidcopkmfaaGreatDoorVFnExactParseWalkInvWords
import Derived.Test.YtlknoidcopkmfaaGreatDoorVFnExactParseWalkGuard
import Derived.Test.YtlknoidcopkmfaaGreatDoorVFnExactParseWalkNEv
import Derived.Test.YtlknoidcopkmfaaGreatDoorVFnExactParseWalkMore
namespace Go.Proofs.YtlknoidcopkmfaaGreatDoor.PFnExactParseWalk
open Go.RowKit Go.Proofs.YtlknoidcopkmfaaGreatDoorW.PrintWords Go.Proofs.YtlknoidcopkmfaaGreatDoorW.PrintLast Go.Proofs.YtlknoidcopkmfaaGreatDoorW.PrintMore
attribute [local go_sem] max2_int min2_int max_two min_two max_three min_three max_four min_four   -- for this text's walks alone
set_option linter.unusedVariables false
set_option linter.unusedSimpArgs false



def errW : Option Int → Value
  | none => .nilIface
  | some c => .iface 0 (.int .i64 c)
theorem errW_none : errW none = .nilIface := rfl
theorem errW_some (c : Int) : errW (some c) = .iface 0 (.int .i64 c) := rfl

theorem info3 : (Tryz.prog.info? 3).map (fun i => (i.zero, i.size, i.bytes)) = some (some (.int .i64 0), 1, 8) := by kernel_rfl
theorem info5 : (Tryz.prog.info? 5).map (fun i => (i.zero, i.size, i.bytes)) = some (some (.int .u8 0), 1, 1) := by kernel_rfl
theorem info9 : (Tryz.prog.info? 9).map (fun i => (i.zero, i.size, i.bytes)) = some (some (.string ⟨#[]⟩), 1, 16) := by kernel_rfl
-- the values' own types

end Go.Proofs.YtlknoidcopkmfaaGreatDoor.PFnExactParseWalk
