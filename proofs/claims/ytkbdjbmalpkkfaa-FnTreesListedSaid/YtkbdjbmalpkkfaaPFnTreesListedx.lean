-- Written by a program of this session for this claim (its own turn of the print).
import Derived.Test.YtkbdjbmalpkkfaaPFnTreesListedx0
import Derived.Test.YtkbdjbmalpkkfaaPFnTreesListedx1
import Derived.Test.YtkbdjbmalpkkfaaPFnTreesListedx2
import Derived.Test.YtkbdjbmalpkkfaaPFnTreesListedx3
import Derived.Test.YtkbdjbmalpkkfaaPFnTreesListedx4
import Derived.Test.YtkbdjbmalpkkfaaPFnTreesListedx5
import Derived.Test.YtkbdjbmalpkkfaaPFnTreesListedx6
import Derived.Test.YtkbdjbmalpkkfaaPFnTreesListedx7
import Derived.Test.YtkbdjbmalpkkfaaPFnTreesListedx8
import Derived.Test.YtkbdjbmalpkkfaaPFnTreesListedx9
import Derived.Test.YtkbdjbmalpkkfaaPFnTreesListedx10
import Derived.Test.YtkbdjbmalpkkfaaPFnTreesListedx11
import Derived.Test.YtkbdjbmalpkkfaaPFnTreesListedx12
namespace Go.Proofs.Ytkbdjbmalpkkfaa.PFnTreesListed
open Go.RowKit Go.Proofs.YtkbdjbmalpkkfaaW.PrintWords Go.Proofs.YtkbdjbmalpkkfaaW.PrintLast Go.Proofs.YtkbdjbmalpkkfaaW.PrintMore
attribute [local go_sem] max2_int min2_int max_two min_two max_three min_three max_four min_four   -- for this text's walks alone
set_option linter.unusedVariables false
set_option linter.unusedSimpArgs false

end Go.Proofs.Ytkbdjbmalpkkfaa.PFnTreesListed
