/- What may come in, and each law's one statement over numbers and lists. -/
import Derived.Test.YtfbbagddhfeefaaZGLPGLx0
import Derived.Test.YtfbbagddhfeefaaZGLOpen
set_option linter.unusedVariables false
set_option linter.unusedSimpArgs false
namespace Go.Proofs.Ytfbbagddhfeefaa.PGL
open Go.RowKit Go.Proofs.YtfbbagddhfeefaaW.PrintWords Go.Proofs.Ytfbbagddhfeefaa Go.ChangeShapes Go.WideShapes
end Go.Proofs.Ytfbbagddhfeefaa.PGL
