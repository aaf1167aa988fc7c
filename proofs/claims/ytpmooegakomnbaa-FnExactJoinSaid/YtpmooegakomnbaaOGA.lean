/- What may come in, and each law's one statement over numbers and lists. -/
import Derived.Test.YtpmooegakomnbaaPGAx0
import Derived.Test.YtpmooegakomnbaaOpen
set_option linter.unusedVariables false
set_option linter.unusedSimpArgs false
namespace Go.Proofs.Ytpmooegakomnbaa.PGA
open Go.RowKit Go.Proofs.YtpmooegakomnbaaW.PrintWords Go.Proofs.Ytpmooegakomnbaa Go.ChangeShapes Go.WideShapes
end Go.Proofs.Ytpmooegakomnbaa.PGA
