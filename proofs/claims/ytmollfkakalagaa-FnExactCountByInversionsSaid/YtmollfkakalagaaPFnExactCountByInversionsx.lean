-- Written by a program of this session for this claim (its own turn of the print).
import Derived.Test.YtmollfkakalagaaPFnExactCountByInversionsx0
import Derived.Test.YtmollfkakalagaaPFnExactCountByInversionsx1
import Derived.Test.YtmollfkakalagaaPFnExactCountByInversionsx2
import Derived.Test.YtmollfkakalagaaPFnExactCountByInversionsx3
import Derived.Test.YtmollfkakalagaaPFnExactCountByInversionsx4
import Derived.Test.YtmollfkakalagaaPFnExactCountByInversionsx5
import Derived.Test.YtmollfkakalagaaPFnExactCountByInversionsx6
namespace Go.Proofs.Ytmollfkakalagaa.PFnExactCountByInversions
open Go.RowKit Go.Proofs.YtmollfkakalagaaW.PrintWords Go.Proofs.YtmollfkakalagaaW.PrintLast Go.Proofs.YtmollfkakalagaaW.PrintMore
attribute [local go_sem] max2_int min2_int max_two min_two max_three min_three max_four min_four   -- for this text's walks alone
set_option linter.unusedVariables false
set_option linter.unusedSimpArgs false

end Go.Proofs.Ytmollfkakalagaa.PFnExactCountByInversions
