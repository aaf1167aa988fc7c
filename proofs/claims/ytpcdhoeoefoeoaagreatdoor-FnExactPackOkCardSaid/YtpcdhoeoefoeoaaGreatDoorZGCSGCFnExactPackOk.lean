/- The one statement over numbers and lists of the law FnExactPackOk. -/
import Derived.Test.YtpcdhoeoefoeoaaGreatDoorZGCOGC
import Derived.Test.YtpcdhoeoefoeoaaGreatDoorZGCPGCx26
namespace Go.Proofs.YtpcdhoeoefoeoaaGreatDoor.PGC
open Go.RowKit Go.Proofs.YtpcdhoeoefoeoaaGreatDoorW.PrintWords Go.Proofs.YtpcdhoeoefoeoaaGreatDoor
def laws_FnExactPackOk.Pure2 : Prop := ∀ (x0 : S39), ok39 x0 → ∃ k, laws_FnExactPackOk.f k x0.f0 x0.f1 x0.f2 x0.f3 = some true
end Go.Proofs.YtpcdhoeoefoeoaaGreatDoor.PGC
