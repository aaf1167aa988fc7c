/- Words for the walks, what these claims use of them. -/
import Derived.Test.YtfbbagddhfeefaaZGLWInv
import Derived.Test.YtfbbagddhfeefaaZGLWFootNe
namespace Go.Proofs.YtfbbagddhfeefaaW.PrintWords
open Go.RowKit
end Go.Proofs.YtfbbagddhfeefaaW.PrintWords
namespace Go.Proofs.YtfbbagddhfeefaaW.PrintLast
end Go.Proofs.YtfbbagddhfeefaaW.PrintLast
