/- The one statement over numbers and lists of the law FnExactPathOk. -/
import Derived.Test.YtpmooegakomnbaaDoorOGA
import Derived.Test.YtpmooegakomnbaaDoorPGAx2
namespace Go.Proofs.YtpmooegakomnbaaDoor.PGA
open Go.RowKit Go.Proofs.YtpmooegakomnbaaDoorW.PrintWords Go.Proofs.YtpmooegakomnbaaDoor
def laws_FnExactPathOk.Pure2 : Prop := ∀ (a0 : ByteArray), a0.size ≤ maxLen → ∃ k, laws_FnExactPathOk.f k a0 = some true
end Go.Proofs.YtpmooegakomnbaaDoor.PGA
