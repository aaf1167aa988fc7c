/- Words for the walks, what these claims use of them. -/
import Derived.Test.YtbjgmbhkofgjaaaDoorZGBWN
namespace Go.Proofs.YtbjgmbhkofgjaaaDoorW.PrintWords
open Go.RowKit
namespace Kd
end Kd
end Go.Proofs.YtbjgmbhkofgjaaaDoorW.PrintWords
