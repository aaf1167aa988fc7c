/- What may come in, and each law's one statement over numbers and lists. -/
import Derived.Test.YtpmooegakomnbabDoorPGDx0
import Derived.Test.YtpmooegakomnbabDoorOpen
set_option linter.unusedVariables false
set_option linter.unusedSimpArgs false
namespace Go.Proofs.YtpmooegakomnbabDoor.PGD
open Go.RowKit Go.Proofs.YtpmooegakomnbabDoorW.PrintWords Go.Proofs.YtpmooegakomnbabDoor Go.ChangeShapes Go.WideShapes
end Go.Proofs.YtpmooegakomnbabDoor.PGD
