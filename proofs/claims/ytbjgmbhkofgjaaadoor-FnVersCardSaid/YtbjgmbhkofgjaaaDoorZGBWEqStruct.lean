/- Words for the walks, what these claims use of them. -/
import Derived.Test.YtbjgmbhkofgjaaaDoorZGBWWords
import Derived.Laws.StructEq
namespace Go.Proofs.YtbjgmbhkofgjaaaDoorW.PrintWords
open Go.RowKit
end Go.Proofs.YtbjgmbhkofgjaaaDoorW.PrintWords
