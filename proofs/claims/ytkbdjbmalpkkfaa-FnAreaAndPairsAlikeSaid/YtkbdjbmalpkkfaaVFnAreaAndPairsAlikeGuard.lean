-- Cut down by a program of this session for this claim: the words that its texts name.
import Derived.Test.YtkbdjbmalpkkfaaVFnAreaAndPairsAlikeWords
/-! ### 58. A guarded operation whose guard is known to want it: the same goal without the guard -/
namespace Go.Proofs.YtkbdjbmalpkkfaaW.PrintWords
open Go.RowKit
section
variable {P : Program} {ops : Array Oper} {rest : List Oper} {o : Oper} {a : Act} {Q : Exit → Act → World → Prop} {W : World}
end
end Go.Proofs.YtkbdjbmalpkkfaaW.PrintWords
