/- The one statement over numbers and lists of the law FnVers. -/
import Derived.Test.YtbjgmbhkofgjaaaDoorZGBOGB
import Derived.Test.YtbjgmbhkofgjaaaDoorZGBPGBx12
namespace Go.Proofs.YtbjgmbhkofgjaaaDoor.PGB
open Go.RowKit Go.Proofs.YtbjgmbhkofgjaaaDoorW.PrintWords Go.Proofs.YtbjgmbhkofgjaaaDoor
def laws_FnVers.Pure2 : Prop := ∀ (l0 : List Int), (l0.length ≤ maxLen ∧ ∀ y_ ∈ l0, (Lit.int .u8 y_).wf = true) → ∃ k, laws_FnVers.f k l0 = some true
end Go.Proofs.YtbjgmbhkofgjaaaDoor.PGB
