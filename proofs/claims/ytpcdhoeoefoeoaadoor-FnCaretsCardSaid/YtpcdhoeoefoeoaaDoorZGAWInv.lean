/- Words for the walks, what these claims use of them. -/
import Derived.Test.YtpcdhoeoefoeoaaDoorZGAWTab
namespace Go.Proofs.YtpcdhoeoefoeoaaDoorW.PrintLast
end Go.Proofs.YtpcdhoeoefoeoaaDoorW.PrintLast
