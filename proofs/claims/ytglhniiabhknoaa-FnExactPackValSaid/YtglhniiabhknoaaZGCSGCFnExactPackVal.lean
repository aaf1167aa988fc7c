/- The one statement over numbers and lists of the law FnExactPackVal. -/
import Derived.Test.YtglhniiabhknoaaZGCOGC
import Derived.Test.YtglhniiabhknoaaZGCPGCx11
namespace Go.Proofs.Ytglhniiabhknoaa.PGC
open Go.RowKit Go.Proofs.YtglhniiabhknoaaW.PrintWords Go.Proofs.Ytglhniiabhknoaa
def laws_FnExactPackVal.Pure2:Prop:=∀ (x0:S39),ok39 x0→∃ k,laws_FnExactPackVal.f k x0.f0 x0.f1 x0.f2 x0.f3=some true
end Go.Proofs.Ytglhniiabhknoaa.PGC
