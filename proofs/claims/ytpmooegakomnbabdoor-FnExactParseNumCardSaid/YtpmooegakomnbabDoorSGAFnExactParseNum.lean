/- The one statement over numbers and lists of the law FnExactParseNum. -/
import Derived.Test.YtpmooegakomnbabDoorOGA
import Derived.Test.YtpmooegakomnbabDoorPGAx1
namespace Go.Proofs.YtpmooegakomnbabDoor.PGA
open Go.RowKit Go.Proofs.YtpmooegakomnbabDoorW.PrintWords Go.Proofs.YtpmooegakomnbabDoor
def laws_FnExactParseNum.Pure2 : Prop := ∀ (a0 : ByteArray) (a1 : Int), a0.size ≤ maxLen → (Lit.int .i64 a1).wf = true → ∃ k, laws_FnExactParseNum.f k a0 a1 = some true
end Go.Proofs.YtpmooegakomnbabDoor.PGA
