/- The one statement over numbers and lists of the law FnWords. -/
import Derived.Test.YtbaeljcnbkeipaaDoorZGBOGB
import Derived.Test.YtbaeljcnbkeipaaDoorZGBPGBx4
namespace Go.Proofs.YtbaeljcnbkeipaaDoor.PGB
open Go.RowKit Go.Proofs.YtbaeljcnbkeipaaDoorW.PrintWords Go.Proofs.YtbaeljcnbkeipaaDoor
def laws_FnWords.Pure2 : Prop := ∀ (l0 : List Int), (l0.length ≤ maxLen ∧ ∀ y_ ∈ l0, (Lit.int .u8 y_).wf = true) → ∃ k, laws_FnWords.f k l0 = some true
end Go.Proofs.YtbaeljcnbkeipaaDoor.PGB
