/- The one statement over numbers and lists of the law FnExactPutText. -/
import Derived.Test.YtcendeobgiphaaaOGE
import Derived.Test.YtcendeobgiphaaaPGEx2
namespace Go.Proofs.Ytcendeobgiphaaa.PGE
open Go.RowKit Go.Proofs.YtcendeobgiphaaaW.PrintWords Go.Proofs.Ytcendeobgiphaaa
def laws_FnExactPutText.Pure2 : Prop := ∀ (l0 : List Int) (a1 : ByteArray), (l0.length ≤ maxLen ∧ ∀ y_ ∈ l0, (Lit.int .u8 y_).wf = true) → a1.size ≤ maxLen → ∃ k, laws_FnExactPutText.f k l0 a1 = some true
end Go.Proofs.Ytcendeobgiphaaa.PGE
