/- The one statement over numbers and lists of the law FnExactFindPack. -/
import Derived.Test.YtfbbagddhfeefaaOGA
import Derived.Test.YtfbbagddhfeefaaPGAx8
namespace Go.Proofs.Ytfbbagddhfeefaa.PGA
open Go.RowKit Go.Proofs.YtfbbagddhfeefaaW.PrintWords Go.Proofs.Ytfbbagddhfeefaa
def laws_FnExactFindPack.Pure2 : Prop := ∀ (l0 : List (S90)) (a1 : ByteArray), (l0.length ≤ maxLen ∧ ∀ y_ ∈ l0, ok90 y_) → a1.size ≤ maxLen → ∃ k, laws_FnExactFindPack.f k l0 a1 = some true
end Go.Proofs.Ytfbbagddhfeefaa.PGA
