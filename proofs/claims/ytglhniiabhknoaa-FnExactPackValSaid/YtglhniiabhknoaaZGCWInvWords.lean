/- Words for the walks, what these claims use of them. -/
import Derived.Test.YtglhniiabhknoaaZGCWTab
import Derived.Test.YtglhniiabhknoaaZGCWN
namespace Go.Proofs.YtglhniiabhknoaaW.PrintWords
open Go.RowKit
theorem Kd.R_flat {α:Type} {d:Kd α} {e base:Nat} {ok ok':Nat→Prop} {w:World} {v:Value} {xs:List α} (hd:∀ {ok1 ok2:Nat→Prop} {x:α} {cs:List Value},d.M w base ok1 x cs→d.M w base ok2 x cs) (h:d.R e w base ok v xs) (hok:∀ k,v.ownBlock=some k→ok k→ok' k):d.R e w base ok' v xs:=by
 obtain⟨h0,inner,hown,hr⟩:=h
 exact⟨fun k hk=>hok k hk (h0 k hk),inner,hown,hr.imp_ (fun _ _ hm=>hd hm)⟩
end Go.Proofs.YtglhniiabhknoaaW.PrintWords
namespace Go.Proofs.YtglhniiabhknoaaW.PrintLast
end Go.Proofs.YtglhniiabhknoaaW.PrintLast
