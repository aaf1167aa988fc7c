/- The one statement over numbers and lists of the law FnExactPutFile. -/
import Derived.Test.YtbaeljcnbkeipaaDoorZGCOGC
import Derived.Test.YtbaeljcnbkeipaaDoorZGCPGCx7
namespace Go.Proofs.YtbaeljcnbkeipaaDoor.PGC
open Go.RowKit Go.Proofs.YtbaeljcnbkeipaaDoorW.PrintWords Go.Proofs.YtbaeljcnbkeipaaDoor
def laws_FnExactPutFile.Pure2 : Prop := ∀ (l0 : List (S24)) (x1 : S24), (l0.length ≤ maxLen ∧ ∀ y_ ∈ l0, ok24 y_) → ok24 x1 → ∃ k, laws_FnExactPutFile.f k l0 x1.f0 x1.f1 = some true
end Go.Proofs.YtbaeljcnbkeipaaDoor.PGC
