-- Written by a program of this session for this claim (its own turn of the print).
import Derived.Test.YtclmhdoecbjppaaPFnTreesMeasuredx0
import Derived.Test.YtclmhdoecbjppaaPFnTreesMeasuredx1
import Derived.Test.YtclmhdoecbjppaaPFnTreesMeasuredx2
import Derived.Test.YtclmhdoecbjppaaPFnTreesMeasuredx3
import Derived.Test.YtclmhdoecbjppaaPFnTreesMeasuredx4
import Derived.Test.YtclmhdoecbjppaaPFnTreesMeasuredx5
import Derived.Test.YtclmhdoecbjppaaPFnTreesMeasuredx6
import Derived.Test.YtclmhdoecbjppaaPFnTreesMeasuredx7
import Derived.Test.YtclmhdoecbjppaaPFnTreesMeasuredx8
namespace Go.Proofs.Ytclmhdoecbjppaa.PFnTreesMeasured
open Go.RowKit Go.Proofs.YtclmhdoecbjppaaW.PrintWords Go.Proofs.YtclmhdoecbjppaaW.PrintLast Go.Proofs.YtclmhdoecbjppaaW.PrintMore
attribute [local go_sem] max2_int min2_int max_two min_two max_three min_three max_four min_four   -- for this text's walks alone
set_option linter.unusedVariables false
set_option linter.unusedSimpArgs false

end Go.Proofs.Ytclmhdoecbjppaa.PFnTreesMeasured
