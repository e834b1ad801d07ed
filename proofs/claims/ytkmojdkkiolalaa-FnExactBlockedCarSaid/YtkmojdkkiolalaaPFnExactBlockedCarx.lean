-- Written by a program of this session for this claim (its own turn of the print).
import Derived.Test.YtkmojdkkiolalaaPFnExactBlockedCarx0
import Derived.Test.YtkmojdkkiolalaaPFnExactBlockedCarx1
import Derived.Test.YtkmojdkkiolalaaPFnExactBlockedCarx2
import Derived.Test.YtkmojdkkiolalaaPFnExactBlockedCarx3
import Derived.Test.YtkmojdkkiolalaaPFnExactBlockedCarx4
import Derived.Test.YtkmojdkkiolalaaPFnExactBlockedCarx5
namespace Go.Proofs.Ytkmojdkkiolalaa.PFnExactBlockedCar
open Go.RowKit Go.Proofs.YtkmojdkkiolalaaW.PrintWords Go.Proofs.YtkmojdkkiolalaaW.PrintLast Go.Proofs.YtkmojdkkiolalaaW.PrintMore
attribute [local go_sem] max2_int min2_int max_two min_two max_three min_three max_four min_four   -- for this text's walks alone
set_option linter.unusedVariables false
set_option linter.unusedSimpArgs false

end Go.Proofs.Ytkmojdkkiolalaa.PFnExactBlockedCar
