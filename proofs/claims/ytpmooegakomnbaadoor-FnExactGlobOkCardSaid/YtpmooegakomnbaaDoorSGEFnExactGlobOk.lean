/- The one statement over numbers and lists of the law FnExactGlobOk. -/
import Derived.Test.YtpmooegakomnbaaDoorOGE
import Derived.Test.YtpmooegakomnbaaDoorPGEx4
namespace Go.Proofs.YtpmooegakomnbaaDoor.PGE
open Go.RowKit Go.Proofs.YtpmooegakomnbaaDoorW.PrintWords Go.Proofs.YtpmooegakomnbaaDoor
def laws_FnExactGlobOk.Pure2 : Prop := ∀ (a0 : ByteArray), a0.size ≤ maxLen → ∃ k, laws_FnExactGlobOk.f k a0 = some true
end Go.Proofs.YtpmooegakomnbaaDoor.PGE
