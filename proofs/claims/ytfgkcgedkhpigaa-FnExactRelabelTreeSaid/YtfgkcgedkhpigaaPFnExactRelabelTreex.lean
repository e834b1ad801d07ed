-- Written by a program of this session for this claim (its own turn of the print).
import Derived.Test.YtfgkcgedkhpigaaPFnExactRelabelTreex0
import Derived.Test.YtfgkcgedkhpigaaPFnExactRelabelTreex1
import Derived.Test.YtfgkcgedkhpigaaPFnExactRelabelTreex2
import Derived.Test.YtfgkcgedkhpigaaPFnExactRelabelTreex3
import Derived.Test.YtfgkcgedkhpigaaPFnExactRelabelTreex4
import Derived.Test.YtfgkcgedkhpigaaPFnExactRelabelTreex5
namespace Go.Proofs.Ytfgkcgedkhpigaa.PFnExactRelabelTree
open Go.RowKit Go.Proofs.YtfgkcgedkhpigaaW.PrintWords Go.Proofs.YtfgkcgedkhpigaaW.PrintLast Go.Proofs.YtfgkcgedkhpigaaW.PrintMore
attribute [local go_sem] max2_int min2_int max_two min_two max_three min_three max_four min_four   -- for this text's walks alone
set_option linter.unusedVariables false
set_option linter.unusedSimpArgs false

end Go.Proofs.Ytfgkcgedkhpigaa.PFnExactRelabelTree
