-- Cut down by a program of this session for this claim: the words that its texts name.
import Derived.Test.YtfgkcgedkhpigaaVFnTreesMeasuredInv
import Derived.Test.YtfgkcgedkhpigaaVFnTreesMeasuredFootNe
namespace Go.Proofs.YtfgkcgedkhpigaaW.PrintWords
open Go.RowKit
end Go.Proofs.YtfgkcgedkhpigaaW.PrintWords
namespace Go.Proofs.YtfgkcgedkhpigaaW.PrintLast
section
variable {ops : Array Oper} {a : Act} {o og : Oper} {g : Nat} {t : Tmp} {u : Bool}
end
end Go.Proofs.YtfgkcgedkhpigaaW.PrintLast
