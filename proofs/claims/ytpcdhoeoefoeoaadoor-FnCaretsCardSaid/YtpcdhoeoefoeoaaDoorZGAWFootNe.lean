/- Words for the walks, what these claims use of them. -/
import Derived.Test.YtpcdhoeoefoeoaaDoorZGAWN
namespace Go.Proofs.YtpcdhoeoefoeoaaDoorW.PrintWords
open Go.RowKit
namespace Kd
end Kd
end Go.Proofs.YtpcdhoeoefoeoaaDoorW.PrintWords
