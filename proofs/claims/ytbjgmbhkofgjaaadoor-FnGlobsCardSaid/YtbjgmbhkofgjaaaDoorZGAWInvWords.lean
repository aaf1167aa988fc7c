/- Words for the walks, what these claims use of them. -/
import Derived.Test.YtbjgmbhkofgjaaaDoorZGAWInv
import Derived.Test.YtbjgmbhkofgjaaaDoorZGAWFootNe
namespace Go.Proofs.YtbjgmbhkofgjaaaDoorW.PrintWords
open Go.RowKit
end Go.Proofs.YtbjgmbhkofgjaaaDoorW.PrintWords
namespace Go.Proofs.YtbjgmbhkofgjaaaDoorW.PrintLast
end Go.Proofs.YtbjgmbhkofgjaaaDoorW.PrintLast
