/- What may come in, and each law's one statement over numbers and lists. -/
import Derived.Test.YtbaeljcnbkeipaaDoorZGBPGBx0
import Derived.Test.YtbaeljcnbkeipaaDoorZGBOpen
set_option linter.unusedVariables false
set_option linter.unusedSimpArgs false
namespace Go.Proofs.YtbaeljcnbkeipaaDoor.PGB
open Go.RowKit Go.Proofs.YtbaeljcnbkeipaaDoorW.PrintWords Go.Proofs.YtbaeljcnbkeipaaDoor Go.ChangeShapes Go.WideShapes
end Go.Proofs.YtbaeljcnbkeipaaDoor.PGB
