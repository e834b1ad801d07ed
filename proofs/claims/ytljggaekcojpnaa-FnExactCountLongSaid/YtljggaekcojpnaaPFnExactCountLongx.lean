-- Written by a program of this session for this claim (its own turn of the print).
import Derived.Test.YtljggaekcojpnaaPFnExactCountLongx0
import Derived.Test.YtljggaekcojpnaaPFnExactCountLongx1
import Derived.Test.YtljggaekcojpnaaPFnExactCountLongx2
namespace Go.Proofs.Ytljggaekcojpnaa.PFnExactCountLong
open Go.RowKit Go.Proofs.YtljggaekcojpnaaW.PrintWords Go.Proofs.YtljggaekcojpnaaW.PrintLast Go.Proofs.YtljggaekcojpnaaW.PrintMore
attribute [local go_sem] max2_int min2_int max_two min_two max_three min_three max_four min_four   -- for this text's walks alone
set_option linter.unusedVariables false
set_option linter.unusedSimpArgs false

end Go.Proofs.Ytljggaekcojpnaa.PFnExactCountLong
