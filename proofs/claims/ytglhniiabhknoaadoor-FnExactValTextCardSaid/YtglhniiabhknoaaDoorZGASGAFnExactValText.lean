/- The one statement over numbers and lists of the law FnExactValText. -/
import Derived.Test.YtglhniiabhknoaaDoorZGAOGA
import Derived.Test.YtglhniiabhknoaaDoorZGAPGAx8
namespace Go.Proofs.YtglhniiabhknoaaDoor.PGA
open Go.RowKit Go.Proofs.YtglhniiabhknoaaDoorW.PrintWords Go.Proofs.YtglhniiabhknoaaDoor
def laws_FnExactValText.Pure2 : Prop := ∀ (x0 : S25), ok25 x0 → ∃ k, laws_FnExactValText.f k x0.f0 x0.f1 x0.f2 x0.f3 x0.f4 = some true
end Go.Proofs.YtglhniiabhknoaaDoor.PGA
