-- Cut down by a program of this session for this claim: the words that its texts name.
import Derived.Test.YtfgkcgedkhpigaaVFnTreesMeasuredLast
import Derived.Test.YtfgkcgedkhpigaaVFnTreesMeasuredWords
/-! ### 50. A region's order in a table, made once a region: each step asks the table (numbers alone), not the operations -/
namespace Go.Proofs.YtfgkcgedkhpigaaW.PrintLast
open Go.Proofs.YtfgkcgedkhpigaaW.PrintWords (Aside0)
section
variable {md : Region.Mode} {ops : Array Oper} {T : Bool × List (List Nat × List Nat)} {l l' li lj lk : Array Bool} {ds : List Nat} {i j k : Nat}
end
end Go.Proofs.YtfgkcgedkhpigaaW.PrintLast
