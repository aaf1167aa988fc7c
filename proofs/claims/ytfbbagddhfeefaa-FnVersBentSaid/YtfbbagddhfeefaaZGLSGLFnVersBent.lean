/- The one statement over numbers and lists of the law FnVersBent. -/
import Derived.Test.YtfbbagddhfeefaaZGLOGL
import Derived.Test.YtfbbagddhfeefaaZGLPGLx9
namespace Go.Proofs.Ytfbbagddhfeefaa.PGL
open Go.RowKit Go.Proofs.YtfbbagddhfeefaaW.PrintWords Go.Proofs.Ytfbbagddhfeefaa
def laws_FnVersBent.Pure2 : Prop := ∀ (l0 : List Int), (l0.length ≤ maxLen ∧ ∀ y_ ∈ l0, (Lit.int .u8 y_).wf = true) → ∃ k, laws_FnVersBent.f k l0 = some true
end Go.Proofs.Ytfbbagddhfeefaa.PGL
