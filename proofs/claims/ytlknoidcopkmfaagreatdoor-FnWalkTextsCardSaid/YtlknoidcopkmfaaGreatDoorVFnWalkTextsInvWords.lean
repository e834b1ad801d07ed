-- Cut down by a program of this session for this claim: the words that its texts name.
import Derived.Test.YtlknoidcopkmfaaGreatDoorVFnWalkTextsInv
import Derived.Test.YtlknoidcopkmfaaGreatDoorVFnWalkTextsFootNe
namespace Go.Proofs.YtlknoidcopkmfaaGreatDoorW.PrintWords
open Go.RowKit
end Go.Proofs.YtlknoidcopkmfaaGreatDoorW.PrintWords
namespace Go.Proofs.YtlknoidcopkmfaaGreatDoorW.PrintLast
section
variable {ops : Array Oper} {a : Act} {o og : Oper} {g : Nat} {t : Tmp} {u : Bool}
end
end Go.Proofs.YtlknoidcopkmfaaGreatDoorW.PrintLast
