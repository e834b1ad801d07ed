-- Written by a program of this session for this claim (its own turn of the print).
import Derived.Test.YtjcnemdiakmjcaaPFnExactRelabelTreex0
import Derived.Test.YtjcnemdiakmjcaaPFnExactRelabelTreex1
import Derived.Test.YtjcnemdiakmjcaaPFnExactRelabelTreex2
import Derived.Test.YtjcnemdiakmjcaaPFnExactRelabelTreex3
import Derived.Test.YtjcnemdiakmjcaaPFnExactRelabelTreex4
import Derived.Test.YtjcnemdiakmjcaaPFnExactRelabelTreex5
import Derived.Test.YtjcnemdiakmjcaaPFnExactRelabelTreex6
namespace Go.Proofs.Ytjcnemdiakmjcaa.PFnExactRelabelTree
open Go.RowKit Go.Proofs.YtjcnemdiakmjcaaW.PrintWords Go.Proofs.YtjcnemdiakmjcaaW.PrintLast Go.Proofs.YtjcnemdiakmjcaaW.PrintMore
attribute [local go_sem] max2_int min2_int max_two min_two max_three min_three max_four min_four   -- for this text's walks alone
set_option linter.unusedVariables false
set_option linter.unusedSimpArgs false

end Go.Proofs.Ytjcnemdiakmjcaa.PFnExactRelabelTree
