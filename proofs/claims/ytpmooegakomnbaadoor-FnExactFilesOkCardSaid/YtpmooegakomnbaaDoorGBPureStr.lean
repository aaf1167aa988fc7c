/- What the laws' helpers over slices of strings come to: their sizes, copies and comparisons. -/
import Derived.Test.YtpmooegakomnbaaDoorAux
import Derived.Test.YtpmooegakomnbaaDoorPGBx0
set_option linter.unusedVariables false
set_option linter.unusedSimpArgs false
namespace Go.Proofs.YtpmooegakomnbaaDoor.Pure
open Go.RowKit Go.Proofs.YtpmooegakomnbaaDoor.PGB Go.Proofs.YtpmooegakomnbaaDoorW.PrintWords Go.Proofs.YtpmooegakomnbaaDoorW.PrintLast Go.Proofs.YtpmooegakomnbaaDoor.Aux

end Go.Proofs.YtpmooegakomnbaaDoor.Pure
