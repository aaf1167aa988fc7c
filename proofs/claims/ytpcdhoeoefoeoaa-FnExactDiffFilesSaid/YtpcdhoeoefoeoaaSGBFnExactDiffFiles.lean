/- The one statement over numbers and lists of the law FnExactDiffFiles. -/
import Derived.Test.YtpcdhoeoefoeoaaOGB
import Derived.Test.YtpcdhoeoefoeoaaPGBx5
namespace Go.Proofs.Ytpcdhoeoefoeoaa.PGB
open Go.RowKit Go.Proofs.YtpcdhoeoefoeoaaW.PrintWords Go.Proofs.Ytpcdhoeoefoeoaa
def laws_FnExactDiffFiles.Pure2 : Prop := ∀ (l0 : List (S37)) (l1 : List (S37)), (l0.length ≤ maxLen ∧ ∀ y_ ∈ l0, ok37 y_) → (l1.length ≤ maxLen ∧ ∀ y_ ∈ l1, ok37 y_) → ∃ k, laws_FnExactDiffFiles.f k l0 l1 = some true
end Go.Proofs.Ytpcdhoeoefoeoaa.PGB
