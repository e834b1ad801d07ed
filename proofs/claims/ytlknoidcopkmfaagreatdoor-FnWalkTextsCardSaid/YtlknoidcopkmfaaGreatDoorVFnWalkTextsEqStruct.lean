-- Cut down by a program of this session for this claim: the words that its texts name.
import Derived.Test.YtlknoidcopkmfaaGreatDoorVFnWalkTextsWords
import Derived.Laws.StructEq
/-! ### 53. '==' of structs as_ one Bool -/
namespace Go.Proofs.YtlknoidcopkmfaaGreatDoorW.PrintWords
open Go.RowKit
section
variable {P : Program} {d : Nat} {xs ys : Array Value} {f : Field} {fs : List Field} {a b : Value} {r s : Bool} {w : World}
end
end Go.Proofs.YtlknoidcopkmfaaGreatDoorW.PrintWords
