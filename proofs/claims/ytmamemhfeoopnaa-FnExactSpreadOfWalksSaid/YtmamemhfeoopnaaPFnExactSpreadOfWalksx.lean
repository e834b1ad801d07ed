-- Written by a program of this session for this claim (its own turn of the print).
import Derived.Test.YtmamemhfeoopnaaPFnExactSpreadOfWalksx0
import Derived.Test.YtmamemhfeoopnaaPFnExactSpreadOfWalksx1
import Derived.Test.YtmamemhfeoopnaaPFnExactSpreadOfWalksx2
import Derived.Test.YtmamemhfeoopnaaPFnExactSpreadOfWalksx3
import Derived.Test.YtmamemhfeoopnaaPFnExactSpreadOfWalksx4
import Derived.Test.YtmamemhfeoopnaaPFnExactSpreadOfWalksx5
import Derived.Test.YtmamemhfeoopnaaPFnExactSpreadOfWalksx6
import Derived.Test.YtmamemhfeoopnaaPFnExactSpreadOfWalksx7
import Derived.Test.YtmamemhfeoopnaaPFnExactSpreadOfWalksx8
import Derived.Test.YtmamemhfeoopnaaPFnExactSpreadOfWalksx9
namespace Go.Proofs.Ytmamemhfeoopnaa.PFnExactSpreadOfWalks
open Go.RowKit Go.Proofs.YtmamemhfeoopnaaW.PrintWords Go.Proofs.YtmamemhfeoopnaaW.PrintLast Go.Proofs.YtmamemhfeoopnaaW.PrintMore
attribute [local go_sem] max2_int min2_int max_two min_two max_three min_three max_four min_four   -- for this text's walks alone
set_option linter.unusedVariables false
set_option linter.unusedSimpArgs false

end Go.Proofs.Ytmamemhfeoopnaa.PFnExactSpreadOfWalks
