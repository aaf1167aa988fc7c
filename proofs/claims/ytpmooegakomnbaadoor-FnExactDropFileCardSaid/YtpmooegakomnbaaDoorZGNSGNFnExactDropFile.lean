/- The one statement over numbers and lists of the law FnExactDropFile. -/
import Derived.Test.YtpmooegakomnbaaDoorZGNOGN
import Derived.Test.YtpmooegakomnbaaDoorZGNPGNx9
namespace Go.Proofs.YtpmooegakomnbaaDoor.PGN
open Go.RowKit Go.Proofs.YtpmooegakomnbaaDoorW.PrintWords Go.Proofs.YtpmooegakomnbaaDoor
def laws_FnExactDropFile.Pure2 : Prop := ∀ (l0 : List (S41)) (a1 : ByteArray), (l0.length ≤ maxLen ∧ ∀ y_ ∈ l0, ok41 y_) → a1.size ≤ maxLen → ∃ k, laws_FnExactDropFile.f k l0 a1 = some true
end Go.Proofs.YtpmooegakomnbaaDoor.PGN
