-- Cut down by a program of this session for this claim: the words that its texts name.
import Derived.Test.YtkbdjbmalpkkfaaVFnAreaAndPairsAlikeInv
import Derived.Test.YtkbdjbmalpkkfaaVFnAreaAndPairsAlikeFootNe
namespace Go.Proofs.YtkbdjbmalpkkfaaW.PrintWords
open Go.RowKit
end Go.Proofs.YtkbdjbmalpkkfaaW.PrintWords
namespace Go.Proofs.YtkbdjbmalpkkfaaW.PrintLast
section
variable {ops : Array Oper} {a : Act} {o og : Oper} {g : Nat} {t : Tmp} {u : Bool}
end
end Go.Proofs.YtkbdjbmalpkkfaaW.PrintLast
