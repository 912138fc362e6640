-- Laid by a program of the session's own (wip/tools/mp.py); not the kit's print.
import Derived.Test.YtackifpnpkbddaaGreatDoorQFnLexedx0
import Derived.Test.YtackifpnpkbddaaGreatDoorQFnLexedx1
import Derived.Test.YtackifpnpkbddaaGreatDoorQFnLexedx2
import Derived.Test.YtackifpnpkbddaaGreatDoorQFnLexedx3
import Derived.Test.YtackifpnpkbddaaGreatDoorQFnLexedx4
import Derived.Test.YtackifpnpkbddaaGreatDoorQFnLexedx5
import Derived.Test.YtackifpnpkbddaaGreatDoorQFnLexedx6
import Derived.Test.YtackifpnpkbddaaGreatDoorQFnLexedx7
import Derived.Test.YtackifpnpkbddaaGreatDoorQFnLexedx8
import Derived.Test.YtackifpnpkbddaaGreatDoorQFnLexedx9
import Derived.Test.YtackifpnpkbddaaGreatDoorQFnLexedx10
namespace Go.Proofs.YtackifpnpkbddaaGreatDoor.QFnLexed
open Go.RowKit Go.Proofs.YtackifpnpkbddaaGreatDoorW.PrintWords Go.Proofs.YtackifpnpkbddaaGreatDoorW.PrintLast Go.Proofs.YtackifpnpkbddaaGreatDoorW.PrintMore Go.Proofs.YtackifpnpkbddaaGreatDoorScan
attribute [local go_sem] max2_int min2_int max_two min_two max_three min_three max_four min_four   -- for this text's walks alone
set_option linter.unusedVariables false
set_option linter.unusedSimpArgs false

end Go.Proofs.YtackifpnpkbddaaGreatDoor.QFnLexed
