/- The one statement over numbers and lists of the law FnExactFilesOk. -/
import Derived.Test.YtpmooegakomnbaaDoorOGB
import Derived.Test.YtpmooegakomnbaaDoorPGBx5
namespace Go.Proofs.YtpmooegakomnbaaDoor.PGB
open Go.RowKit Go.Proofs.YtpmooegakomnbaaDoorW.PrintWords Go.Proofs.YtpmooegakomnbaaDoor
def laws_FnExactFilesOk.Pure2 : Prop := ∀ (l0 : List (S41)), (l0.length ≤ maxLen ∧ ∀ y_ ∈ l0, ok41 y_) → ∃ k, laws_FnExactFilesOk.f k l0 = some true
end Go.Proofs.YtpmooegakomnbaaDoor.PGB
