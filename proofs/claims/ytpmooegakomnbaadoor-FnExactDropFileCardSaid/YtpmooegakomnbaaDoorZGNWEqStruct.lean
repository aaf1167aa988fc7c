/- Words for the walks, what these claims use of them. -/
import Derived.Test.YtpmooegakomnbaaDoorZGNWWords
import Derived.Laws.StructEq
namespace Go.Proofs.YtpmooegakomnbaaDoorW.PrintWords
open Go.RowKit
end Go.Proofs.YtpmooegakomnbaaDoorW.PrintWords
