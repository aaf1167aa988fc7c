/- The one statement over numbers and lists of the law FnTexts. -/
import Derived.Test.YtfbbagddhfeefaaOGF
import Derived.Test.YtfbbagddhfeefaaPGFx3
namespace Go.Proofs.Ytfbbagddhfeefaa.PGF
open Go.RowKit Go.Proofs.YtfbbagddhfeefaaW.PrintWords Go.Proofs.Ytfbbagddhfeefaa
def laws_FnTexts.Pure2 : Prop := ∀ (l0 : List Int), (l0.length ≤ maxLen ∧ ∀ y_ ∈ l0, (Lit.int .u8 y_).wf = true) → ∃ k, laws_FnTexts.f k l0 = some true
end Go.Proofs.Ytfbbagddhfeefaa.PGF
