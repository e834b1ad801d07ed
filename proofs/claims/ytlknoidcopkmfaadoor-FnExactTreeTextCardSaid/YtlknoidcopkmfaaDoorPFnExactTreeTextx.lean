-- Written by a program of this session for this claim (its own turn of the print).
import Derived.Test.YtlknoidcopkmfaaDoorPFnExactTreeTextx0
import Derived.Test.YtlknoidcopkmfaaDoorPFnExactTreeTextx1
import Derived.Test.YtlknoidcopkmfaaDoorPFnExactTreeTextx2
import Derived.Test.YtlknoidcopkmfaaDoorPFnExactTreeTextx3
namespace Go.Proofs.YtlknoidcopkmfaaDoor.PFnExactTreeText
open Go.RowKit Go.Proofs.YtlknoidcopkmfaaDoorW.PrintWords Go.Proofs.YtlknoidcopkmfaaDoorW.PrintLast Go.Proofs.YtlknoidcopkmfaaDoorW.PrintMore
attribute [local go_sem] max2_int min2_int max_two min_two max_three min_three max_four min_four   -- for this text's walks alone
set_option linter.unusedVariables false
set_option linter.unusedSimpArgs false

end Go.Proofs.YtlknoidcopkmfaaDoor.PFnExactTreeText
