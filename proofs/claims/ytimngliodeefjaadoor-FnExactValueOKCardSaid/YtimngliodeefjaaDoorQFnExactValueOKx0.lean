-- Laid by a program of the session's own (wip/tools/mp.py); not the kit's print.
import Derived.Test.YtimngliodeefjaaDoorProg
import Derived.Below
import Derived.Deep.Draws
import Derived.Deep.AppendLies
import Derived.Maps.AppendAt
import Derived.OwnWalk
import Derived.Laws.BytesArg
import Derived.Laws.MakeOwn
import Derived.Laws.OwnMore
import Derived.Deep.OwnRows
import Derived.Tactics
import Derived.Lib.ConvBytes
import Derived.Laws.Slices
import Derived.WalkKit
import Derived.KernelRfl
import Derived.RowKit3
import Derived.Deep.LoopGhost
import Derived.Deep.QuietTactic
import Derived.BigQuiet
import Derived.WideLaws
import Derived.Deep.DeepCutAuto
import Derived.Deep.CutBlock
import Derived.Deep.RegionHeld3
import Derived.Laws.Rows
import Derived.Lib.AppendStr
import Derived.ArgAppend
import Derived.Laws.IdiomCopy
import Derived.OrdersHeld
import Derived.Laws.BitsLemmas
import Derived.RowKit
import Derived.Test.YtimngliodeefjaaDoorExt
import Derived.Test.YtimngliodeefjaaDoorWWords
import Derived.Test.YtimngliodeefjaaDoorWLast
import Derived.Test.YtimngliodeefjaaDoorWTab
import Derived.Test.YtimngliodeefjaaDoorWFour
import Derived.Test.YtimngliodeefjaaDoorWQPut
import Derived.Test.YtimngliodeefjaaDoorWApart
import Derived.Test.YtimngliodeefjaaDoorWArr
import Derived.Test.YtimngliodeefjaaDoorWZeros
import Derived.Test.YtimngliodeefjaaDoorWFoot
import Derived.Test.YtimngliodeefjaaDoorWKept
import Derived.Test.YtimngliodeefjaaDoorWShare
import Derived.Test.YtimngliodeefjaaDoorWN
import Derived.Test.YtimngliodeefjaaDoorWFootNe
import Derived.Test.YtimngliodeefjaaDoorWAt
import Derived.Test.YtimngliodeefjaaDoorWEqStruct
import Derived.Test.YtimngliodeefjaaDoorWRepsOne
import Derived.Test.YtimngliodeefjaaDoorWInv
import Derived.Test.YtimngliodeefjaaDoorWInvWords
import Derived.Test.YtimngliodeefjaaDoorWGuard
import Derived.Test.YtimngliodeefjaaDoorWNEv
import Derived.Test.YtimngliodeefjaaDoorWMore
namespace Go.Proofs.YtimngliodeefjaaDoor.QFnExactValueOK
open Go.RowKit Go.Proofs.YtimngliodeefjaaDoorW.PrintWords Go.Proofs.YtimngliodeefjaaDoorW.PrintLast Go.Proofs.YtimngliodeefjaaDoorW.PrintMore Go.Proofs.YtimngliodeefjaaDoorExt
attribute [local go_sem] max2_int min2_int max_two min_two max_three min_three max_four min_four   -- for this text's walks alone
set_option linter.unusedVariables false
set_option linter.unusedSimpArgs false



def errW : Option Int → Value
  | none => .nilIface
  | some c => .iface 0 (.int .i64 c)
theorem errW_none : errW none = .nilIface := rfl
theorem errW_some (c : Int) : errW (some c) = .iface 0 (.int .i64 c) := rfl

theorem info3 : (Tryd.prog.info? 3).map (fun i => (i.zero, i.size, i.bytes)) = some (some (.int .i64 0), 1, 8) := by kernel_rfl
-- the values' own types

end Go.Proofs.YtimngliodeefjaaDoor.QFnExactValueOK
