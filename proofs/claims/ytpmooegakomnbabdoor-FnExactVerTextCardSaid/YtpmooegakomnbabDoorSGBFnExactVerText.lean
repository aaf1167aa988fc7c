/- The one statement over numbers and lists of the law FnExactVerText. -/
import Derived.Test.YtpmooegakomnbabDoorOGB
import Derived.Test.YtpmooegakomnbabDoorPGBx5
namespace Go.Proofs.YtpmooegakomnbabDoor.PGB
open Go.RowKit Go.Proofs.YtpmooegakomnbabDoorW.PrintWords Go.Proofs.YtpmooegakomnbabDoor
def laws_FnExactVerText.Pure2 : Prop := ∀ (x0 : S27), ok27 x0 → ∃ k, laws_FnExactVerText.f k x0.f0 x0.f1 x0.f2 x0.f3 = some true
end Go.Proofs.YtpmooegakomnbabDoor.PGB
