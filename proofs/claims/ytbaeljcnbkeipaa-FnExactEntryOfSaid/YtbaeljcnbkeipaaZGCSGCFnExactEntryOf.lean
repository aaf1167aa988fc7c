/- The one statement over numbers and lists of the law FnExactEntryOf. -/
import Derived.Test.YtbaeljcnbkeipaaZGCOGC
import Derived.Test.YtbaeljcnbkeipaaZGCPGCx10
namespace Go.Proofs.Ytbaeljcnbkeipaa.PGC
open Go.RowKit Go.Proofs.YtbaeljcnbkeipaaW.PrintWords Go.Proofs.Ytbaeljcnbkeipaa
def laws_FnExactEntryOf.Pure2 : Prop := ∀ (l0 : List (S84)) (a1 : ByteArray) (x2 : S38), (l0.length ≤ maxLen ∧ ∀ y_ ∈ l0, ok84 y_) → a1.size ≤ maxLen → ok38 x2 → ∃ k, laws_FnExactEntryOf.f k l0 a1 x2.f0 x2.f1 x2.f2 x2.f3 = some true
end Go.Proofs.Ytbaeljcnbkeipaa.PGC
