/- The one statement over numbers and lists of the law FnExactInRange. -/
import Derived.Test.YtfbbagddhfeefaaZGCOGC
import Derived.Test.YtfbbagddhfeefaaZGCPGCx13
namespace Go.Proofs.Ytfbbagddhfeefaa.PGC
open Go.RowKit Go.Proofs.YtfbbagddhfeefaaW.PrintWords Go.Proofs.Ytfbbagddhfeefaa
def laws_FnExactInRange.Pure2 : Prop := ∀ (l0 : List (List (S76))) (x1 : S24), (l0.length ≤ maxLen ∧ ∀ y_ ∈ l0, (y_.length ≤ maxLen ∧ ∀ y__ ∈ y_, ok76 y__)) → ok24 x1 → ∃ k, laws_FnExactInRange.f k l0 x1.f0 x1.f1 x1.f2 x1.f3 = some true
end Go.Proofs.Ytfbbagddhfeefaa.PGC
