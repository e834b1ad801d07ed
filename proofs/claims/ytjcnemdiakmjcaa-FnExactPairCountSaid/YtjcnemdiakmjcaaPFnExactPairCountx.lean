-- Written by a program of this session for this claim (its own turn of the print).
import Derived.Test.YtjcnemdiakmjcaaPFnExactPairCountx0
import Derived.Test.YtjcnemdiakmjcaaPFnExactPairCountx1
import Derived.Test.YtjcnemdiakmjcaaPFnExactPairCountx2
import Derived.Test.YtjcnemdiakmjcaaPFnExactPairCountx3
import Derived.Test.YtjcnemdiakmjcaaPFnExactPairCountx4
import Derived.Test.YtjcnemdiakmjcaaPFnExactPairCountx5
import Derived.Test.YtjcnemdiakmjcaaPFnExactPairCountx6
import Derived.Test.YtjcnemdiakmjcaaPFnExactPairCountx7
import Derived.Test.YtjcnemdiakmjcaaPFnExactPairCountx8
import Derived.Test.YtjcnemdiakmjcaaPFnExactPairCountx9
import Derived.Test.YtjcnemdiakmjcaaPFnExactPairCountx10
namespace Go.Proofs.Ytjcnemdiakmjcaa.PFnExactPairCount
open Go.RowKit Go.Proofs.YtjcnemdiakmjcaaW.PrintWords Go.Proofs.YtjcnemdiakmjcaaW.PrintLast Go.Proofs.YtjcnemdiakmjcaaW.PrintMore
attribute [local go_sem] max2_int min2_int max_two min_two max_three min_three max_four min_four   -- for this text's walks alone
set_option linter.unusedVariables false
set_option linter.unusedSimpArgs false

end Go.Proofs.Ytjcnemdiakmjcaa.PFnExactPairCount
