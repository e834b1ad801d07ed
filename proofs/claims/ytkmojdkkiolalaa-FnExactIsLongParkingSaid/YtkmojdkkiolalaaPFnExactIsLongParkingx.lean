-- Written by a program of this session for this claim (its own turn of the print).
import Derived.Test.YtkmojdkkiolalaaPFnExactIsLongParkingx0
import Derived.Test.YtkmojdkkiolalaaPFnExactIsLongParkingx1
import Derived.Test.YtkmojdkkiolalaaPFnExactIsLongParkingx2
import Derived.Test.YtkmojdkkiolalaaPFnExactIsLongParkingx3
import Derived.Test.YtkmojdkkiolalaaPFnExactIsLongParkingx4
import Derived.Test.YtkmojdkkiolalaaPFnExactIsLongParkingx5
namespace Go.Proofs.Ytkmojdkkiolalaa.PFnExactIsLongParking
open Go.RowKit Go.Proofs.YtkmojdkkiolalaaW.PrintWords Go.Proofs.YtkmojdkkiolalaaW.PrintLast Go.Proofs.YtkmojdkkiolalaaW.PrintMore
attribute [local go_sem] max2_int min2_int max_two min_two max_three min_three max_four min_four   -- for this text's walks alone
set_option linter.unusedVariables false
set_option linter.unusedSimpArgs false

end Go.Proofs.Ytkmojdkkiolalaa.PFnExactIsLongParking
