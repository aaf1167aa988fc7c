/- The one statement over numbers and lists of the law FnExactPicked. -/
import Derived.Test.YtpmooegakomnbaaDoorZGHOGH
import Derived.Test.YtpmooegakomnbaaDoorZGHPGHx13
namespace Go.Proofs.YtpmooegakomnbaaDoor.PGH
open Go.RowKit Go.Proofs.YtpmooegakomnbaaDoorW.PrintWords Go.Proofs.YtpmooegakomnbaaDoor
def laws_FnExactPicked.Pure2 : Prop := ∀ (l0 : List (S41)) (l1 : List ByteArray), (l0.length ≤ maxLen ∧ ∀ y_ ∈ l0, ok41 y_) → (l1.length ≤ maxLen ∧ ∀ y_ ∈ l1, y_.size ≤ maxLen) → ∃ k, laws_FnExactPicked.f k l0 l1 = some true
end Go.Proofs.YtpmooegakomnbaaDoor.PGH
