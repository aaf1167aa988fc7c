/- Words for the walks, what these claims use of them. -/
import Derived.Test.YtfbbagddhfeefaaZGLWWords
import Derived.Laws.StructEq
namespace Go.Proofs.YtfbbagddhfeefaaW.PrintWords
open Go.RowKit
end Go.Proofs.YtfbbagddhfeefaaW.PrintWords
