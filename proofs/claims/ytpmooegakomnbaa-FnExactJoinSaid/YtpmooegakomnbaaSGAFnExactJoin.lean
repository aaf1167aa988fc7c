/- The one statement over numbers and lists of the law FnExactJoin. -/
import Derived.Test.YtpmooegakomnbaaOGA
import Derived.Test.YtpmooegakomnbaaPGAx1
namespace Go.Proofs.Ytpmooegakomnbaa.PGA
open Go.RowKit Go.Proofs.YtpmooegakomnbaaW.PrintWords Go.Proofs.Ytpmooegakomnbaa
def laws_FnExactJoin.Pure2 : Prop := ∀ (l0 : List ByteArray) (a1 : ByteArray), (l0.length ≤ maxLen ∧ ∀ y_ ∈ l0, y_.size ≤ maxLen) → a1.size ≤ maxLen → ∃ k, laws_FnExactJoin.f k l0 a1 = some true
end Go.Proofs.Ytpmooegakomnbaa.PGA
