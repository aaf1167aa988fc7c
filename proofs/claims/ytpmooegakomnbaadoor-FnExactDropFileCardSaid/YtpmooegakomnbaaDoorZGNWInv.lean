/- Words for the walks, what these claims use of them. -/
import Derived.Test.YtpmooegakomnbaaDoorZGNWTab
namespace Go.Proofs.YtpmooegakomnbaaDoorW.PrintLast
end Go.Proofs.YtpmooegakomnbaaDoorW.PrintLast
