/- The one statement over numbers and lists of the law FnExactParseRange. -/
import Derived.Test.YtglhniiabhknoaaGreatDoorZGCOGC
import Derived.Test.YtglhniiabhknoaaGreatDoorZGCPGCx19
namespace Go.Proofs.YtglhniiabhknoaaGreatDoor.PGC
open Go.RowKit Go.Proofs.YtglhniiabhknoaaGreatDoorW.PrintWords Go.Proofs.YtglhniiabhknoaaGreatDoor
def laws_FnExactParseRange.Pure2:Prop:=∀ (a0:ByteArray),a0.size≤maxLen→∃ k,laws_FnExactParseRange.f k a0=some true
end Go.Proofs.YtglhniiabhknoaaGreatDoor.PGC
