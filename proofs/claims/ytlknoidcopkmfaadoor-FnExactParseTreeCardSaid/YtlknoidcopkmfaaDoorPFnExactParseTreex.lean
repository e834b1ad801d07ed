-- Written by a program of this session for this claim (its own turn of the print).
import Derived.Test.YtlknoidcopkmfaaDoorPFnExactParseTreex0
import Derived.Test.YtlknoidcopkmfaaDoorPFnExactParseTreex1
import Derived.Test.YtlknoidcopkmfaaDoorPFnExactParseTreex2
import Derived.Test.YtlknoidcopkmfaaDoorPFnExactParseTreex3
import Derived.Test.YtlknoidcopkmfaaDoorPFnExactParseTreex4
namespace Go.Proofs.YtlknoidcopkmfaaDoor.PFnExactParseTree
open Go.RowKit Go.Proofs.YtlknoidcopkmfaaDoorW.PrintWords Go.Proofs.YtlknoidcopkmfaaDoorW.PrintLast Go.Proofs.YtlknoidcopkmfaaDoorW.PrintMore
attribute [local go_sem] max2_int min2_int max_two min_two max_three min_three max_four min_four   -- for this text's walks alone
set_option linter.unusedVariables false
set_option linter.unusedSimpArgs false

end Go.Proofs.YtlknoidcopkmfaaDoor.PFnExactParseTree
