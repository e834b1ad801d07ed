-- Written by a program of this session for this claim (its own turn of the print).
import Derived.Test.YtmollfkakalagaaPFnTreesAreWordsx0
import Derived.Test.YtmollfkakalagaaPFnTreesAreWordsx1
import Derived.Test.YtmollfkakalagaaPFnTreesAreWordsx2
import Derived.Test.YtmollfkakalagaaPFnTreesAreWordsx3
import Derived.Test.YtmollfkakalagaaPFnTreesAreWordsx4
import Derived.Test.YtmollfkakalagaaPFnTreesAreWordsx5
import Derived.Test.YtmollfkakalagaaPFnTreesAreWordsx6
import Derived.Test.YtmollfkakalagaaPFnTreesAreWordsx7
import Derived.Test.YtmollfkakalagaaPFnTreesAreWordsx8
import Derived.Test.YtmollfkakalagaaPFnTreesAreWordsx9
namespace Go.Proofs.Ytmollfkakalagaa.PFnTreesAreWords
open Go.RowKit Go.Proofs.YtmollfkakalagaaW.PrintWords Go.Proofs.YtmollfkakalagaaW.PrintLast Go.Proofs.YtmollfkakalagaaW.PrintMore
attribute [local go_sem] max2_int min2_int max_two min_two max_three min_three max_four min_four   -- for this text's walks alone
set_option linter.unusedVariables false
set_option linter.unusedSimpArgs false

end Go.Proofs.Ytmollfkakalagaa.PFnTreesAreWords
