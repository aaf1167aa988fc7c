/- The one statement over numbers and lists of the law FnExactRangeText. -/
import Derived.Test.YtpmooegakomnbabDoorOGC
import Derived.Test.YtpmooegakomnbabDoorPGCx9
namespace Go.Proofs.YtpmooegakomnbabDoor.PGC
open Go.RowKit Go.Proofs.YtpmooegakomnbabDoorW.PrintWords Go.Proofs.YtpmooegakomnbabDoor
def laws_FnExactRangeText.Pure2 : Prop := ∀ (l0 : List (List (S93))), (l0.length ≤ maxLen ∧ ∀ y_ ∈ l0, (y_.length ≤ maxLen ∧ ∀ y__ ∈ y_, ok93 y__)) → ∃ k, laws_FnExactRangeText.f k l0 = some true
end Go.Proofs.YtpmooegakomnbabDoor.PGC
