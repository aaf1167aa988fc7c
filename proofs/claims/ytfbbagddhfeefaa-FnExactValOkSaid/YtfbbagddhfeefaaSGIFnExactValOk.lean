/- The one statement over numbers and lists of the law FnExactValOk. -/
import Derived.Test.YtfbbagddhfeefaaOGI
import Derived.Test.YtfbbagddhfeefaaPGIx7
namespace Go.Proofs.Ytfbbagddhfeefaa.PGI
open Go.RowKit Go.Proofs.YtfbbagddhfeefaaW.PrintWords Go.Proofs.Ytfbbagddhfeefaa
def laws_FnExactValOk.Pure2 : Prop := ∀ (x0 : S54), ok54 x0 → ∃ k, laws_FnExactValOk.f k x0.f0 x0.f1 x0.f2 x0.f3 x0.f4 = some true
end Go.Proofs.Ytfbbagddhfeefaa.PGI
