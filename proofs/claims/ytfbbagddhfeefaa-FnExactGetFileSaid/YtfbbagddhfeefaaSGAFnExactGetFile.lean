/- The one statement over numbers and lists of the law FnExactGetFile. -/
import Derived.Test.YtfbbagddhfeefaaOGA
import Derived.Test.YtfbbagddhfeefaaPGAx2
namespace Go.Proofs.Ytfbbagddhfeefaa.PGA
open Go.RowKit Go.Proofs.YtfbbagddhfeefaaW.PrintWords Go.Proofs.Ytfbbagddhfeefaa
def laws_FnExactGetFile.Pure2 : Prop := ∀ (l0 : List (S127)) (a1 : ByteArray), (l0.length ≤ maxLen ∧ ∀ y_ ∈ l0, ok127 y_) → a1.size ≤ maxLen → ∃ k, laws_FnExactGetFile.f k l0 a1 = some true
end Go.Proofs.Ytfbbagddhfeefaa.PGA
