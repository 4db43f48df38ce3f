/- Every constant that the program exports has the value that the reference gives it: the law answers true. No condition. -/
import Derived.Test.YtmbdcobggkhijaaPFnExactConstantsx1
namespace Go.Proofs.Ytmbdcobggkhijaa.Pure
open Go.RowKit Go.Proofs.Ytmbdcobggkhijaa.PFnExactConstants Go.Proofs.YtmbdcobggkhijaaW.PrintWords Go.Proofs.YtmbdcobggkhijaaW.PrintLast

theorem FnExactConstants : laws_FnExactConstants.Pure := by
  rfl

end Go.Proofs.Ytmbdcobggkhijaa.Pure
