/- The one statement over numbers and lists of the law FnGlobs. -/
import Derived.Test.YtbjgmbhkofgjaaaDoorZGAOGA
import Derived.Test.YtbjgmbhkofgjaaaDoorZGAPGAx14
namespace Go.Proofs.YtbjgmbhkofgjaaaDoor.PGA
open Go.RowKit Go.Proofs.YtbjgmbhkofgjaaaDoorW.PrintWords Go.Proofs.YtbjgmbhkofgjaaaDoor
def laws_FnGlobs.Pure2 : Prop := ∀ (l0 : List Int), (l0.length ≤ maxLen ∧ ∀ y_ ∈ l0, (Lit.int .u8 y_).wf = true) → ∃ k, laws_FnGlobs.f k l0 = some true
end Go.Proofs.YtbjgmbhkofgjaaaDoor.PGA
