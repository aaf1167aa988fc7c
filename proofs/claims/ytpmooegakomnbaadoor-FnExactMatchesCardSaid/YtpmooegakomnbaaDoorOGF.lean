/- What may come in, and each law's one statement over numbers and lists. -/
import Derived.Test.YtpmooegakomnbaaDoorPGFx0
import Derived.Test.YtpmooegakomnbaaDoorOpen
set_option linter.unusedVariables false
set_option linter.unusedSimpArgs false
namespace Go.Proofs.YtpmooegakomnbaaDoor.PGF
open Go.RowKit Go.Proofs.YtpmooegakomnbaaDoorW.PrintWords Go.Proofs.YtpmooegakomnbaaDoor Go.ChangeShapes Go.WideShapes
end Go.Proofs.YtpmooegakomnbaaDoor.PGF
