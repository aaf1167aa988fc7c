/- The one statement over numbers and lists of the law FnExactParseVer. -/
import Derived.Test.YtpmooegakomnbabDoorOGD
import Derived.Test.YtpmooegakomnbabDoorPGDx8
namespace Go.Proofs.YtpmooegakomnbabDoor.PGD
open Go.RowKit Go.Proofs.YtpmooegakomnbabDoorW.PrintWords Go.Proofs.YtpmooegakomnbabDoor
def laws_FnExactParseVer.Pure2 : Prop := ∀ (a0 : ByteArray), a0.size ≤ maxLen → ∃ k, laws_FnExactParseVer.f k a0 = some true
end Go.Proofs.YtpmooegakomnbabDoor.PGD
