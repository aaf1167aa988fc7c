/- What may come in, and each law's one statement over numbers and lists. -/
import Derived.Test.YtglhniiabhknoaaGreatDoorZGCPGCx0
import Derived.Test.YtglhniiabhknoaaGreatDoorZGCOpen
set_option linter.unusedVariables false
set_option linter.unusedSimpArgs false
namespace Go.Proofs.YtglhniiabhknoaaGreatDoor.PGC
open Go.RowKit Go.Proofs.YtglhniiabhknoaaGreatDoorW.PrintWords Go.Proofs.YtglhniiabhknoaaGreatDoor Go.ChangeShapes Go.WideShapes
end Go.Proofs.YtglhniiabhknoaaGreatDoor.PGC
