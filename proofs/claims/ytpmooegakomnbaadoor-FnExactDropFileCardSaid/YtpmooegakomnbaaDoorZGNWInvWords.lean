/- Words for the walks, what these claims use of them. -/
import Derived.Test.YtpmooegakomnbaaDoorZGNWInv
import Derived.Test.YtpmooegakomnbaaDoorZGNWFootNe
namespace Go.Proofs.YtpmooegakomnbaaDoorW.PrintWords
open Go.RowKit
end Go.Proofs.YtpmooegakomnbaaDoorW.PrintWords
namespace Go.Proofs.YtpmooegakomnbaaDoorW.PrintLast
end Go.Proofs.YtpmooegakomnbaaDoorW.PrintLast
