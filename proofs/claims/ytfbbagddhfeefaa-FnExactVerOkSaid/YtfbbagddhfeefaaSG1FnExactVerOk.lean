/- The one statement over numbers and lists of the law FnExactVerOk. -/
import Derived.Test.YtfbbagddhfeefaaOG1
import Derived.Test.YtfbbagddhfeefaaPG1x37
namespace Go.Proofs.Ytfbbagddhfeefaa.PG1
open Go.RowKit Go.Proofs.YtfbbagddhfeefaaW.PrintWords Go.Proofs.Ytfbbagddhfeefaa
def laws_FnExactVerOk.Pure2 : Prop := ∀ (x0 : S24), ok24 x0 → ∃ k, laws_FnExactVerOk.f k x0.f0 x0.f1 x0.f2 x0.f3 = some true
end Go.Proofs.Ytfbbagddhfeefaa.PG1
