-- Laid by a program of the session's own (wip/tools/mp.py); not the kit's print.
import Derived.Test.YtackifpnpkbddaaDoorQNumx0
import Derived.Test.YtackifpnpkbddaaDoorQNumx1
namespace Go.Proofs.YtackifpnpkbddaaDoor.QNum
open Go.RowKit Go.Proofs.YtackifpnpkbddaaDoorW.PrintWords Go.Proofs.YtackifpnpkbddaaDoorW.PrintLast Go.Proofs.YtackifpnpkbddaaDoorW.PrintMore
attribute [local go_sem] max2_int min2_int max_two min_two max_three min_three max_four min_four   -- for this text's walks alone
set_option linter.unusedVariables false
set_option linter.unusedSimpArgs false

end Go.Proofs.YtackifpnpkbddaaDoor.QNum
