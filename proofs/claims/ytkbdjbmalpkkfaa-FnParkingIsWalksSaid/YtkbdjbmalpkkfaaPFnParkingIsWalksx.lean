-- Written by a program of this session for this claim (its own turn of the print).
import Derived.Test.YtkbdjbmalpkkfaaPFnParkingIsWalksx0
import Derived.Test.YtkbdjbmalpkkfaaPFnParkingIsWalksx1
import Derived.Test.YtkbdjbmalpkkfaaPFnParkingIsWalksx2
import Derived.Test.YtkbdjbmalpkkfaaPFnParkingIsWalksx3
import Derived.Test.YtkbdjbmalpkkfaaPFnParkingIsWalksx4
import Derived.Test.YtkbdjbmalpkkfaaPFnParkingIsWalksx5
import Derived.Test.YtkbdjbmalpkkfaaPFnParkingIsWalksx6
import Derived.Test.YtkbdjbmalpkkfaaPFnParkingIsWalksx7
import Derived.Test.YtkbdjbmalpkkfaaPFnParkingIsWalksx8
import Derived.Test.YtkbdjbmalpkkfaaPFnParkingIsWalksx9
import Derived.Test.YtkbdjbmalpkkfaaPFnParkingIsWalksx10
import Derived.Test.YtkbdjbmalpkkfaaPFnParkingIsWalksx11
namespace Go.Proofs.Ytkbdjbmalpkkfaa.PFnParkingIsWalks
open Go.RowKit Go.Proofs.YtkbdjbmalpkkfaaW.PrintWords Go.Proofs.YtkbdjbmalpkkfaaW.PrintLast Go.Proofs.YtkbdjbmalpkkfaaW.PrintMore
attribute [local go_sem] max2_int min2_int max_two min_two max_three min_three max_four min_four   -- for this text's walks alone
set_option linter.unusedVariables false
set_option linter.unusedSimpArgs false

end Go.Proofs.Ytkbdjbmalpkkfaa.PFnParkingIsWalks
