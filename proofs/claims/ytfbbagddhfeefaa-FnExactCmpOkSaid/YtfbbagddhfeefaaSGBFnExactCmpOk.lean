/- The one statement over numbers and lists of the law FnExactCmpOk. -/
import Derived.Test.YtfbbagddhfeefaaOGB
import Derived.Test.YtfbbagddhfeefaaPGBx8
namespace Go.Proofs.Ytfbbagddhfeefaa.PGB
open Go.RowKit Go.Proofs.YtfbbagddhfeefaaW.PrintWords Go.Proofs.Ytfbbagddhfeefaa
def laws_FnExactCmpOk.Pure2 : Prop := ∀ (x0 : S76) (x1 : S24), ok76 x0 → ok24 x1 → ∃ k, laws_FnExactCmpOk.f k x0.f0 x0.f1.f0 x0.f1.f1 x0.f1.f2 x0.f1.f3 x1.f0 x1.f1 x1.f2 x1.f3 = some true
end Go.Proofs.Ytfbbagddhfeefaa.PGB
