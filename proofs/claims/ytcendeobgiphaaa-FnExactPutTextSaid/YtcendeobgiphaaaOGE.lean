/- What may come in, and each law's one statement over numbers and lists. -/
import Derived.Test.YtcendeobgiphaaaPGEx0
import Derived.Test.YtcendeobgiphaaaOpen
set_option linter.unusedVariables false
set_option linter.unusedSimpArgs false
namespace Go.Proofs.Ytcendeobgiphaaa.PGE
open Go.RowKit Go.Proofs.YtcendeobgiphaaaW.PrintWords Go.Proofs.Ytcendeobgiphaaa Go.ChangeShapes Go.WideShapes
end Go.Proofs.Ytcendeobgiphaaa.PGE
