-- Written by a program of this session for this claim (its own turn of the print).
import Derived.Test.YtkbdjbmalpkkfaaPFnPairsOfWalksx0
import Derived.Test.YtkbdjbmalpkkfaaPFnPairsOfWalksx1
import Derived.Test.YtkbdjbmalpkkfaaPFnPairsOfWalksx2
import Derived.Test.YtkbdjbmalpkkfaaPFnPairsOfWalksx3
import Derived.Test.YtkbdjbmalpkkfaaPFnPairsOfWalksx4
import Derived.Test.YtkbdjbmalpkkfaaPFnPairsOfWalksx5
import Derived.Test.YtkbdjbmalpkkfaaPFnPairsOfWalksx6
import Derived.Test.YtkbdjbmalpkkfaaPFnPairsOfWalksx7
import Derived.Test.YtkbdjbmalpkkfaaPFnPairsOfWalksx8
import Derived.Test.YtkbdjbmalpkkfaaPFnPairsOfWalksx9
import Derived.Test.YtkbdjbmalpkkfaaPFnPairsOfWalksx10
import Derived.Test.YtkbdjbmalpkkfaaPFnPairsOfWalksx11
namespace Go.Proofs.Ytkbdjbmalpkkfaa.PFnPairsOfWalks
open Go.RowKit Go.Proofs.YtkbdjbmalpkkfaaW.PrintWords Go.Proofs.YtkbdjbmalpkkfaaW.PrintLast Go.Proofs.YtkbdjbmalpkkfaaW.PrintMore
attribute [local go_sem] max2_int min2_int max_two min_two max_three min_three max_four min_four   -- for this text's walks alone
set_option linter.unusedVariables false
set_option linter.unusedSimpArgs false

end Go.Proofs.Ytkbdjbmalpkkfaa.PFnPairsOfWalks
