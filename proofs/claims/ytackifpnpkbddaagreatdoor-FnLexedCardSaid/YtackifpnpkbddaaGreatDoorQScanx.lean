import Derived.Test.YtackifpnpkbddaaGreatDoorQScanx0
import Derived.Test.YtackifpnpkbddaaGreatDoorQScanx1
namespace Go.Proofs.YtackifpnpkbddaaGreatDoor.QScan
open Go.RowKit Go.Proofs.YtackifpnpkbddaaGreatDoorW.PrintWords Go.Proofs.YtackifpnpkbddaaGreatDoorW.PrintLast Go.Proofs.YtackifpnpkbddaaGreatDoorW.PrintMore
attribute [local go_sem] max2_int min2_int max_two min_two max_three min_three max_four min_four   -- for this text's walks alone
set_option linter.unusedVariables false
set_option linter.unusedSimpArgs false

end Go.Proofs.YtackifpnpkbddaaGreatDoor.QScan
