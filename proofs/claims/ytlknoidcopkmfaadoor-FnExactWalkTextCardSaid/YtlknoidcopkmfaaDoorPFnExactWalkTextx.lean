-- Written by a program of this session for this claim (its own turn of the print).
import Derived.Test.YtlknoidcopkmfaaDoorPFnExactWalkTextx0
import Derived.Test.YtlknoidcopkmfaaDoorPFnExactWalkTextx1
import Derived.Test.YtlknoidcopkmfaaDoorPFnExactWalkTextx2
import Derived.Test.YtlknoidcopkmfaaDoorPFnExactWalkTextx3
import Derived.Test.YtlknoidcopkmfaaDoorPFnExactWalkTextx4
import Derived.Test.YtlknoidcopkmfaaDoorPFnExactWalkTextx5
import Derived.Test.YtlknoidcopkmfaaDoorPFnExactWalkTextx6
import Derived.Test.YtlknoidcopkmfaaDoorPFnExactWalkTextx7
namespace Go.Proofs.YtlknoidcopkmfaaDoor.PFnExactWalkText
open Go.RowKit Go.Proofs.YtlknoidcopkmfaaDoorW.PrintWords Go.Proofs.YtlknoidcopkmfaaDoorW.PrintLast Go.Proofs.YtlknoidcopkmfaaDoorW.PrintMore
attribute [local go_sem] max2_int min2_int max_two min_two max_three min_three max_four min_four   -- for this text's walks alone
set_option linter.unusedVariables false
set_option linter.unusedSimpArgs false

end Go.Proofs.YtlknoidcopkmfaaDoor.PFnExactWalkText
