/- Words for the walks, what these claims use of them. -/
import Derived.Test.YtbjgmbhkofgjaaaDoorZGBWInv
import Derived.Test.YtbjgmbhkofgjaaaDoorZGBWFootNe
namespace Go.Proofs.YtbjgmbhkofgjaaaDoorW.PrintWords
open Go.RowKit
end Go.Proofs.YtbjgmbhkofgjaaaDoorW.PrintWords
namespace Go.Proofs.YtbjgmbhkofgjaaaDoorW.PrintLast
end Go.Proofs.YtbjgmbhkofgjaaaDoorW.PrintLast
