-- Written by a program of this session for this claim (its own turn of the print).
import Derived.Test.YtfgkcgedkhpigaaPFnTreesMeasuredx0
import Derived.Test.YtfgkcgedkhpigaaPFnTreesMeasuredx1
import Derived.Test.YtfgkcgedkhpigaaPFnTreesMeasuredx2
import Derived.Test.YtfgkcgedkhpigaaPFnTreesMeasuredx3
import Derived.Test.YtfgkcgedkhpigaaPFnTreesMeasuredx4
import Derived.Test.YtfgkcgedkhpigaaPFnTreesMeasuredx5
import Derived.Test.YtfgkcgedkhpigaaPFnTreesMeasuredx6
import Derived.Test.YtfgkcgedkhpigaaPFnTreesMeasuredx7
import Derived.Test.YtfgkcgedkhpigaaPFnTreesMeasuredx8
namespace Go.Proofs.Ytfgkcgedkhpigaa.PFnTreesMeasured
open Go.RowKit Go.Proofs.YtfgkcgedkhpigaaW.PrintWords Go.Proofs.YtfgkcgedkhpigaaW.PrintLast Go.Proofs.YtfgkcgedkhpigaaW.PrintMore
attribute [local go_sem] max2_int min2_int max_two min_two max_three min_three max_four min_four   -- for this text's walks alone
set_option linter.unusedVariables false
set_option linter.unusedSimpArgs false

end Go.Proofs.Ytfgkcgedkhpigaa.PFnTreesMeasured
