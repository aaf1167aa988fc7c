/- Words for the walks, what these claims use of them. -/
import Derived.Test.YtpmooegakomnbaaDoorZGNWFootNe
namespace Go.Proofs.YtpmooegakomnbaaDoorW.PrintWords
open Go.RowKit
namespace Kd
end Kd
end Go.Proofs.YtpmooegakomnbaaDoorW.PrintWords
