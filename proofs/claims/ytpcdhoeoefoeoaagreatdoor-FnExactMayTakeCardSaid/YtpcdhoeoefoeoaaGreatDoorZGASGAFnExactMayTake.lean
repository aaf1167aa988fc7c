/- The one statement over numbers and lists of the law FnExactMayTake. -/
import Derived.Test.YtpcdhoeoefoeoaaGreatDoorZGAOGA
import Derived.Test.YtpcdhoeoefoeoaaGreatDoorZGAPGAx21
namespace Go.Proofs.YtpcdhoeoefoeoaaGreatDoor.PGA
open Go.RowKit Go.Proofs.YtpcdhoeoefoeoaaGreatDoorW.PrintWords Go.Proofs.YtpcdhoeoefoeoaaGreatDoor
def laws_FnExactMayTake.Pure2 : Prop := ∀ (x0 : S23) (x1 : S26), ok23 x0 → ok26 x1 → ∃ k, laws_FnExactMayTake.f k x0.f0 x0.f1 x1.f0 x1.f1 x1.f2 x1.f3 = some true
end Go.Proofs.YtpcdhoeoefoeoaaGreatDoor.PGA
