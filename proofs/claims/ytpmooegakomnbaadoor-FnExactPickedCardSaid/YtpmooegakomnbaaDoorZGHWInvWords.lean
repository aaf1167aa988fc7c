/- Words for the walks, what these claims use of them. -/
import Derived.Test.YtpmooegakomnbaaDoorZGHWInv
import Derived.Test.YtpmooegakomnbaaDoorZGHWFootNe
namespace Go.Proofs.YtpmooegakomnbaaDoorW.PrintWords
open Go.RowKit
end Go.Proofs.YtpmooegakomnbaaDoorW.PrintWords
namespace Go.Proofs.YtpmooegakomnbaaDoorW.PrintLast
end Go.Proofs.YtpmooegakomnbaaDoorW.PrintLast
