/- Words for the walks, what these claims use of them. -/
import Derived.Test.YtpcdhoeoefoeoaaDoorZGAWInv
import Derived.Test.YtpcdhoeoefoeoaaDoorZGAWFootNe
namespace Go.Proofs.YtpcdhoeoefoeoaaDoorW.PrintWords
open Go.RowKit
end Go.Proofs.YtpcdhoeoefoeoaaDoorW.PrintWords
namespace Go.Proofs.YtpcdhoeoefoeoaaDoorW.PrintLast
end Go.Proofs.YtpcdhoeoefoeoaaDoorW.PrintLast
