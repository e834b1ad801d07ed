-- Written by a program of this session for this claim (its own turn of the print).
import Derived.Test.YtclmhdoecbjppaaPFnParkingIsTreesx0
import Derived.Test.YtclmhdoecbjppaaPFnParkingIsTreesx1
import Derived.Test.YtclmhdoecbjppaaPFnParkingIsTreesx2
import Derived.Test.YtclmhdoecbjppaaPFnParkingIsTreesx3
import Derived.Test.YtclmhdoecbjppaaPFnParkingIsTreesx4
import Derived.Test.YtclmhdoecbjppaaPFnParkingIsTreesx5
import Derived.Test.YtclmhdoecbjppaaPFnParkingIsTreesx6
import Derived.Test.YtclmhdoecbjppaaPFnParkingIsTreesx7
import Derived.Test.YtclmhdoecbjppaaPFnParkingIsTreesx8
import Derived.Test.YtclmhdoecbjppaaPFnParkingIsTreesx9
import Derived.Test.YtclmhdoecbjppaaPFnParkingIsTreesx10
namespace Go.Proofs.Ytclmhdoecbjppaa.PFnParkingIsTrees
open Go.RowKit Go.Proofs.YtclmhdoecbjppaaW.PrintWords Go.Proofs.YtclmhdoecbjppaaW.PrintLast Go.Proofs.YtclmhdoecbjppaaW.PrintMore
attribute [local go_sem] max2_int min2_int max_two min_two max_three min_three max_four min_four   -- for this text's walks alone
set_option linter.unusedVariables false
set_option linter.unusedSimpArgs false

end Go.Proofs.Ytclmhdoecbjppaa.PFnParkingIsTrees
