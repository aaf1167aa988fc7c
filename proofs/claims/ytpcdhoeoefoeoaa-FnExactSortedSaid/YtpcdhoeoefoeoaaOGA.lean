/- What may come in, and each law's one statement over numbers and lists. -/
import Derived.Test.YtpcdhoeoefoeoaaPGAx0
import Derived.Test.YtpcdhoeoefoeoaaOpen
set_option linter.unusedVariables false
set_option linter.unusedSimpArgs false
namespace Go.Proofs.Ytpcdhoeoefoeoaa.PGA
open Go.RowKit Go.Proofs.YtpcdhoeoefoeoaaW.PrintWords Go.Proofs.Ytpcdhoeoefoeoaa Go.ChangeShapes Go.WideShapes
end Go.Proofs.Ytpcdhoeoefoeoaa.PGA
