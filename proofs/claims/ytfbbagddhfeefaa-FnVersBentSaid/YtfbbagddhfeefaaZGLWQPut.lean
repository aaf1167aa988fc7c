/- Words for the walks, what these claims use of them. -/
import Derived.Test.YtfbbagddhfeefaaZGLWWords
import Derived.Test.YtfbbagddhfeefaaZGLWLast
namespace Go.Proofs.YtfbbagddhfeefaaW.PrintWords
open Go.RowKit
namespace Kd
end Kd
end Go.Proofs.YtfbbagddhfeefaaW.PrintWords
