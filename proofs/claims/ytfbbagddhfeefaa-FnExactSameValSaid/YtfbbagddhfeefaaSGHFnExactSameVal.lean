/- The one statement over numbers and lists of the law FnExactSameVal. -/
import Derived.Test.YtfbbagddhfeefaaOGH
import Derived.Test.YtfbbagddhfeefaaPGHx6
namespace Go.Proofs.Ytfbbagddhfeefaa.PGH
open Go.RowKit Go.Proofs.YtfbbagddhfeefaaW.PrintWords Go.Proofs.Ytfbbagddhfeefaa
def laws_FnExactSameVal.Pure2 : Prop := ∀ (x0 : S54) (x1 : S54), ok54 x0 → ok54 x1 → ∃ k, laws_FnExactSameVal.f k x0.f0 x0.f1 x0.f2 x0.f3 x0.f4 x1.f0 x1.f1 x1.f2 x1.f3 x1.f4 = some true
end Go.Proofs.Ytfbbagddhfeefaa.PGH
