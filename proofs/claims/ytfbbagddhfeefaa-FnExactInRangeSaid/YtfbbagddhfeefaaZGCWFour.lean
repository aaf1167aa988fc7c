/- Words for the walks, what these claims use of them. -/
import Derived.Test.YtfbbagddhfeefaaZGCWTab
namespace Go.Proofs.YtfbbagddhfeefaaW.PrintLast
end Go.Proofs.YtfbbagddhfeefaaW.PrintLast
