/- Proved: each exported constant of the program has the value that the statement names. No conditions. -/
import Derived.Test.YtimngliodeefjaaQFnExactConstantsx1
namespace Go.Proofs.Ytimngliodeefjaa.Pure
open Go.RowKit Go.Proofs.Ytimngliodeefjaa.QFnExactConstants Go.Proofs.YtimngliodeefjaaW.PrintWords Go.Proofs.YtimngliodeefjaaW.PrintLast

/-- YOURS: laws_FnExactConstants.f  = some true
What it reaches (each with k first where it has rounds; `.mono`: more rounds tell the same; `.l0`, ..: its loops, with `.mono_l`): laws_FnExactConstants.f -/
theorem FnExactConstants : laws_FnExactConstants.Pure := by
  rfl

end Go.Proofs.Ytimngliodeefjaa.Pure
