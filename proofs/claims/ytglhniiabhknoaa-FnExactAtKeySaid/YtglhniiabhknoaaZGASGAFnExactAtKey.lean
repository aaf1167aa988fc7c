/- The one statement over numbers and lists of the law FnExactAtKey. -/
import Derived.Test.YtglhniiabhknoaaZGAOGA
import Derived.Test.YtglhniiabhknoaaZGAPGAx8
namespace Go.Proofs.Ytglhniiabhknoaa.PGA
open Go.RowKit Go.Proofs.YtglhniiabhknoaaW.PrintWords Go.Proofs.Ytglhniiabhknoaa
def laws_FnExactAtKey.Pure2 : Prop := ∀ (x0 : S25) (a1 : ByteArray), ok25 x0 → a1.size ≤ maxLen → ∃ k, laws_FnExactAtKey.f k x0.f0 x0.f1 x0.f2 x0.f3 x0.f4 a1 = some true
end Go.Proofs.Ytglhniiabhknoaa.PGA
