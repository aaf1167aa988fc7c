/- The one statement over numbers and lists of the law FnExactMatches. -/
import Derived.Test.YtpmooegakomnbaaDoorOGF
import Derived.Test.YtpmooegakomnbaaDoorPGFx9
namespace Go.Proofs.YtpmooegakomnbaaDoor.PGF
open Go.RowKit Go.Proofs.YtpmooegakomnbaaDoorW.PrintWords Go.Proofs.YtpmooegakomnbaaDoor
def laws_FnExactMatches.Pure2 : Prop := ∀ (a0 : ByteArray) (a1 : ByteArray), a0.size ≤ maxLen → a1.size ≤ maxLen → ∃ k, laws_FnExactMatches.f k a0 a1 = some true
end Go.Proofs.YtpmooegakomnbaaDoor.PGF
