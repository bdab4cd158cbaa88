/- Every exported constant of the program is the document's: the law's pure form answers true, without conditions. -/
import Derived.Test.YtfcljimfpjoioaaPFnExactConstantsx1
namespace Go.Proofs.Ytfcljimfpjoioaa.Pure
open Go.RowKit Go.Proofs.Ytfcljimfpjoioaa.PFnExactConstants Go.Proofs.YtfcljimfpjoioaaW.PrintWords Go.Proofs.YtfcljimfpjoioaaW.PrintLast

/-- YOURS: laws_FnExactConstants.f  = some true
What it reaches (each with k first where it has rounds; `.mono`: more rounds tell the same; `.l0`, ..: its loops, with `.mono_l`): laws_FnExactConstants.f -/
theorem FnExactConstants : laws_FnExactConstants.Pure := by
  unfold laws_FnExactConstants.Pure laws_FnExactConstants.f; first | rfl | decide | simp

end Go.Proofs.Ytfcljimfpjoioaa.Pure
