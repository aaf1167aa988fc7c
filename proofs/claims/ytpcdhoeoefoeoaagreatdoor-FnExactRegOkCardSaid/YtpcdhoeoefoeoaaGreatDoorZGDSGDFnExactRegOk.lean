/- The one statement over numbers and lists of the law FnExactRegOk. -/
import Derived.Test.YtpcdhoeoefoeoaaGreatDoorZGDOGD
import Derived.Test.YtpcdhoeoefoeoaaGreatDoorZGDPGDx24
namespace Go.Proofs.YtpcdhoeoefoeoaaGreatDoor.PGD
open Go.RowKit Go.Proofs.YtpcdhoeoefoeoaaGreatDoorW.PrintWords Go.Proofs.YtpcdhoeoefoeoaaGreatDoor
def laws_FnExactRegOk.Pure2 : Prop := ∀ (l0 : List (S100)), (l0.length ≤ maxLen ∧ ∀ y_ ∈ l0, ok100 y_) → ∃ k, laws_FnExactRegOk.f k l0 = some true
end Go.Proofs.YtpcdhoeoefoeoaaGreatDoor.PGD
