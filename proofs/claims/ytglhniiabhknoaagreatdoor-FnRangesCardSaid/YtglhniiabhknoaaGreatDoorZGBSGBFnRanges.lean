/- The one statement over numbers and lists of the law FnRanges. -/
import Derived.Test.YtglhniiabhknoaaGreatDoorZGBOGB
import Derived.Test.YtglhniiabhknoaaGreatDoorZGBPGBx29
namespace Go.Proofs.YtglhniiabhknoaaGreatDoor.PGB
open Go.RowKit Go.Proofs.YtglhniiabhknoaaGreatDoorW.PrintWords Go.Proofs.YtglhniiabhknoaaGreatDoor
def laws_FnRanges.Pure2:Prop:=∀ (l0:List Int),(l0.length≤maxLen∧∀ y_∈l0,(Lit.int .u8 y_).wf=true)→∃ k,laws_FnRanges.f k l0=some true
end Go.Proofs.YtglhniiabhknoaaGreatDoor.PGB
