/- The one statement over numbers and lists of the law FnExactSplit. -/
import Derived.Test.YtpmooegakomnbaaDoorOGC
import Derived.Test.YtpmooegakomnbaaDoorPGCx2
namespace Go.Proofs.YtpmooegakomnbaaDoor.PGC
open Go.RowKit Go.Proofs.YtpmooegakomnbaaDoorW.PrintWords Go.Proofs.YtpmooegakomnbaaDoor
def laws_FnExactSplit.Pure2 : Prop := ∀ (a0 : ByteArray) (a1 : Int), a0.size ≤ maxLen → (Lit.int .u8 a1).wf = true → ∃ k, laws_FnExactSplit.f k a0 a1 = some true
end Go.Proofs.YtpmooegakomnbaaDoor.PGC
