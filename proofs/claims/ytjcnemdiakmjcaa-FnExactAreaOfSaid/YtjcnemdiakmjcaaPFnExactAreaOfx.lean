-- Written by a program of this session for this claim (its own turn of the print).
import Derived.Test.YtjcnemdiakmjcaaPFnExactAreaOfx0
import Derived.Test.YtjcnemdiakmjcaaPFnExactAreaOfx1
import Derived.Test.YtjcnemdiakmjcaaPFnExactAreaOfx2
import Derived.Test.YtjcnemdiakmjcaaPFnExactAreaOfx3
import Derived.Test.YtjcnemdiakmjcaaPFnExactAreaOfx4
import Derived.Test.YtjcnemdiakmjcaaPFnExactAreaOfx5
import Derived.Test.YtjcnemdiakmjcaaPFnExactAreaOfx6
import Derived.Test.YtjcnemdiakmjcaaPFnExactAreaOfx7
import Derived.Test.YtjcnemdiakmjcaaPFnExactAreaOfx8
namespace Go.Proofs.Ytjcnemdiakmjcaa.PFnExactAreaOf
open Go.RowKit Go.Proofs.YtjcnemdiakmjcaaW.PrintWords Go.Proofs.YtjcnemdiakmjcaaW.PrintLast Go.Proofs.YtjcnemdiakmjcaaW.PrintMore
attribute [local go_sem] max2_int min2_int max_two min_two max_three min_three max_four min_four   -- for this text's walks alone
set_option linter.unusedVariables false
set_option linter.unusedSimpArgs false

end Go.Proofs.Ytjcnemdiakmjcaa.PFnExactAreaOf
