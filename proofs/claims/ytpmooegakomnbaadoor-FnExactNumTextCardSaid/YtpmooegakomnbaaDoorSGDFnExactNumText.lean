/- The one statement over numbers and lists of the law FnExactNumText. -/
import Derived.Test.YtpmooegakomnbaaDoorOGD
import Derived.Test.YtpmooegakomnbaaDoorPGDx1
namespace Go.Proofs.YtpmooegakomnbaaDoor.PGD
open Go.RowKit Go.Proofs.YtpmooegakomnbaaDoorW.PrintWords Go.Proofs.YtpmooegakomnbaaDoor
def laws_FnExactNumText.Pure2 : Prop := ∀ (a0 : Int), (Lit.int .i64 a0).wf = true → ∃ k, laws_FnExactNumText.f k a0 = some true
end Go.Proofs.YtpmooegakomnbaaDoor.PGD
