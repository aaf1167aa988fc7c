/- The one statement over numbers and lists of the law FnCarets. -/
import Derived.Test.YtpcdhoeoefoeoaaDoorZGAOGA
import Derived.Test.YtpcdhoeoefoeoaaDoorZGAPGAx12
namespace Go.Proofs.YtpcdhoeoefoeoaaDoor.PGA
open Go.RowKit Go.Proofs.YtpcdhoeoefoeoaaDoorW.PrintWords Go.Proofs.YtpcdhoeoefoeoaaDoor
def laws_FnCarets.Pure2 : Prop := ∀ (l0 : List Int), (l0.length ≤ maxLen ∧ ∀ y_ ∈ l0, (Lit.int .u8 y_).wf = true) → ∃ k, laws_FnCarets.f k l0 = some true
end Go.Proofs.YtpcdhoeoefoeoaaDoor.PGA
