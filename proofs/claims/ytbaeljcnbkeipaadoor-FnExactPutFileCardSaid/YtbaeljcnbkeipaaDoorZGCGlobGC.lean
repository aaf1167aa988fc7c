/- What the world holds that some functions of the library read: package-level variables of the library's own. -/
import Derived.Test.YtbaeljcnbkeipaaDoorProg
import Derived.Test.YtbaeljcnbkeipaaDoorZGCLib
import Derived.Lib.LaidTab
import Derived.Lib.ItoaNum
set_option linter.unusedVariables false
namespace Go.Proofs.YtbaeljcnbkeipaaDoor.PGC
open Go.RowKit Go.Proofs.YtbaeljcnbkeipaaDoorW.PrintWords
structure GW (w : World) : Prop where
  maxLen : ∃ m, w.cell? ⟨0, 0, none⟩ = some (.int .i64 m)
theorem GW.below {w w' : World} (h : GW w) (hb : Below w.heap.size w w') : GW w' := ⟨(by obtain ⟨m, hm⟩ := h.maxLen; exact ⟨m, pw_cell_below hb hm⟩)⟩
end Go.Proofs.YtbaeljcnbkeipaaDoor.PGC
