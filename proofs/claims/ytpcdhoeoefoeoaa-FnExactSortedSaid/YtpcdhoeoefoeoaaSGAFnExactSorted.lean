/- The one statement over numbers and lists of the law FnExactSorted. -/
import Derived.Test.YtpcdhoeoefoeoaaOGA
import Derived.Test.YtpcdhoeoefoeoaaPGAx3
namespace Go.Proofs.Ytpcdhoeoefoeoaa.PGA
open Go.RowKit Go.Proofs.YtpcdhoeoefoeoaaW.PrintWords Go.Proofs.Ytpcdhoeoefoeoaa
def laws_FnExactSorted.Pure2 : Prop := ∀ (l0 : List ByteArray), (l0.length ≤ maxLen ∧ ∀ y_ ∈ l0, y_.size ≤ maxLen) → ∃ k, laws_FnExactSorted.f k l0 = some true
end Go.Proofs.Ytpcdhoeoefoeoaa.PGA
