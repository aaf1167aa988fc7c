/- Words for the walks, what these claims use of them. -/
import Derived.Test.YtbjgmbhkofgjaaaDoorZGAWWords
namespace Go.Proofs.YtbjgmbhkofgjaaaDoorW.PrintWords
open Go.RowKit
end Go.Proofs.YtbjgmbhkofgjaaaDoorW.PrintWords
