-- Cut down by a program of this session for this claim: the words that its texts name.
import Derived.Test.YtmollfkakalagaaVFnTreesAreWordsInv
import Derived.Test.YtmollfkakalagaaVFnTreesAreWordsFootNe
namespace Go.Proofs.YtmollfkakalagaaW.PrintWords
open Go.RowKit
end Go.Proofs.YtmollfkakalagaaW.PrintWords
namespace Go.Proofs.YtmollfkakalagaaW.PrintLast
section
variable {ops : Array Oper} {a : Act} {o og : Oper} {g : Nat} {t : Tmp} {u : Bool}
end
end Go.Proofs.YtmollfkakalagaaW.PrintLast
