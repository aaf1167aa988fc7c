/- The one statement over numbers and lists of the law FnExactPacksOk. -/
import Derived.Test.YtpcdhoeoefoeoaaGreatDoorZGEOGE
import Derived.Test.YtpcdhoeoefoeoaaGreatDoorZGEPGEx27
namespace Go.Proofs.YtpcdhoeoefoeoaaGreatDoor.PGE
open Go.RowKit Go.Proofs.YtpcdhoeoefoeoaaGreatDoorW.PrintWords Go.Proofs.YtpcdhoeoefoeoaaGreatDoor
def laws_FnExactPacksOk.Pure2 : Prop := ∀ (l0 : List (S39)), (l0.length ≤ maxLen ∧ ∀ y_ ∈ l0, ok39 y_) → ∃ k, laws_FnExactPacksOk.f k l0 = some true
end Go.Proofs.YtpcdhoeoefoeoaaGreatDoor.PGE
