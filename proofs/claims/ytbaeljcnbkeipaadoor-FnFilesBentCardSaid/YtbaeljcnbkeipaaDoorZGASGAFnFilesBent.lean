/- The one statement over numbers and lists of the law FnFilesBent. -/
import Derived.Test.YtbaeljcnbkeipaaDoorZGAOGA
import Derived.Test.YtbaeljcnbkeipaaDoorZGAPGAx11
namespace Go.Proofs.YtbaeljcnbkeipaaDoor.PGA
open Go.RowKit Go.Proofs.YtbaeljcnbkeipaaDoorW.PrintWords Go.Proofs.YtbaeljcnbkeipaaDoor
def laws_FnFilesBent.Pure2 : Prop := ∀ (l0 : List Int), (l0.length ≤ maxLen ∧ ∀ y_ ∈ l0, (Lit.int .u8 y_).wf = true) → ∃ k, laws_FnFilesBent.f k l0 = some true
end Go.Proofs.YtbaeljcnbkeipaaDoor.PGA
