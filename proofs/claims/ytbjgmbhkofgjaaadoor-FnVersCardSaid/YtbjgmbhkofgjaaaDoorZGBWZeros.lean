/- Words for the walks, what these claims use of them. -/
import Derived.Test.YtbjgmbhkofgjaaaDoorZGBWApart
import Derived.Test.YtbjgmbhkofgjaaaDoorZGBWArr
namespace Go.Proofs.YtbjgmbhkofgjaaaDoorW.PrintWords
open Go.RowKit
namespace Kd
end Kd
end Go.Proofs.YtbjgmbhkofgjaaaDoorW.PrintWords
