/- What may come in, and each law's one statement over numbers and lists. -/
import Derived.Test.YtpcdhoeoefoeoaaDoorZGAPGAx0
import Derived.Test.YtpcdhoeoefoeoaaDoorZGAOpen
set_option linter.unusedVariables false
set_option linter.unusedSimpArgs false
namespace Go.Proofs.YtpcdhoeoefoeoaaDoor.PGA
open Go.RowKit Go.Proofs.YtpcdhoeoefoeoaaDoorW.PrintWords Go.Proofs.YtpcdhoeoefoeoaaDoor Go.ChangeShapes Go.WideShapes
end Go.Proofs.YtpcdhoeoefoeoaaDoor.PGA
