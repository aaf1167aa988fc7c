/- Words for the walks, what these claims use of them. -/
import Derived.Test.YtbjgmbhkofgjaaaDoorZGBWTab
namespace Go.Proofs.YtbjgmbhkofgjaaaDoorW.PrintLast
end Go.Proofs.YtbjgmbhkofgjaaaDoorW.PrintLast
