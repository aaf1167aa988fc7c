/- Words for the walks, what these claims use of them. -/
import Derived.Test.YtfbbagddhfeefaaZGLWTab
namespace Go.Proofs.YtfbbagddhfeefaaW.PrintLast
end Go.Proofs.YtfbbagddhfeefaaW.PrintLast
