/- The law FnExactConstants holds: every constant of the program has the value that the document tells. No condition. -/
import Derived.Test.YtcendeobgiphaaaPFnExactConstantsx1
namespace Go.Proofs.Ytcendeobgiphaaa.Pure
open Go.RowKit Go.Proofs.Ytcendeobgiphaaa.PFnExactConstants Go.Proofs.YtcendeobgiphaaaW.PrintWords Go.Proofs.YtcendeobgiphaaaW.PrintLast

theorem FnExactConstants : laws_FnExactConstants.Pure := by
  unfold laws_FnExactConstants.Pure laws_FnExactConstants.f
  rfl

end Go.Proofs.Ytcendeobgiphaaa.Pure
