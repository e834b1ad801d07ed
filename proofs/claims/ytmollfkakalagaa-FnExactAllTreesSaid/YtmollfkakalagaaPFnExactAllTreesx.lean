-- Written by a program of this session for this claim (its own turn of the print).
import Derived.Test.YtmollfkakalagaaPFnExactAllTreesx0
import Derived.Test.YtmollfkakalagaaPFnExactAllTreesx1
import Derived.Test.YtmollfkakalagaaPFnExactAllTreesx2
import Derived.Test.YtmollfkakalagaaPFnExactAllTreesx3
import Derived.Test.YtmollfkakalagaaPFnExactAllTreesx4
namespace Go.Proofs.Ytmollfkakalagaa.PFnExactAllTrees
open Go.RowKit Go.Proofs.YtmollfkakalagaaW.PrintWords Go.Proofs.YtmollfkakalagaaW.PrintLast Go.Proofs.YtmollfkakalagaaW.PrintMore
attribute [local go_sem] max2_int min2_int max_two min_two max_three min_three max_four min_four   -- for this text's walks alone
set_option linter.unusedVariables false
set_option linter.unusedSimpArgs false

end Go.Proofs.Ytmollfkakalagaa.PFnExactAllTrees
