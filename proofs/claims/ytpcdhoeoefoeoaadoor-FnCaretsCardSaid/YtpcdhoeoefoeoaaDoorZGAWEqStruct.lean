/- Words for the walks, what these claims use of them. -/
import Derived.Test.YtpcdhoeoefoeoaaDoorZGAWWords
import Derived.Laws.StructEq
namespace Go.Proofs.YtpcdhoeoefoeoaaDoorW.PrintWords
open Go.RowKit
end Go.Proofs.YtpcdhoeoefoeoaaDoorW.PrintWords
