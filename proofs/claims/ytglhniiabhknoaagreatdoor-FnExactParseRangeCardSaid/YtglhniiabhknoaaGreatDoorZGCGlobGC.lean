/- What the world holds that some functions of the library read: package-level variables of the library's own. -/
import Derived.Test.YtglhniiabhknoaaGreatDoorProg
import Derived.Test.YtglhniiabhknoaaGreatDoorZGCLib
import Derived.Lib.LaidTab
import Derived.Lib.ItoaNum
set_option linter.unusedVariables false
namespace Go.Proofs.YtglhniiabhknoaaGreatDoor.PGC
open Go.RowKit Go.Proofs.YtglhniiabhknoaaGreatDoorW.PrintWords
theorem tab_below {w w':World} {name:String} {k:IntKind} {zs:List Int} (hb:Below w.heap.size w w') (h:Lib.TabIs Tryz.prog w name k zs):Lib.TabIs Tryz.prog w' name k zs:=by
  unfold Lib.TabIs World.var? at h ⊢
  obtain⟨g,hg,h⟩:=Option.bind_eq_some_iff.1 h
  rw[hg,Option.bind_some]
  have hlt:g<w.heap.size:=by
    by_cases hl:g<w.heap.size
    · exact hl
    · rw[Array.getElem?_eq_none (by omega)] at h;cases h
  rw[hb.block g hlt]
  exact h
structure GW (w:World):Prop where
  maxLen:∃ m,w.cell? ⟨0,0,none⟩=some (.int .i64 m)
  pow10:Lib.TabIs Tryz.prog w "internal/strconv.uint64pow10" .u64 Lib.pow10Tab
theorem GW.below {w w':World} (h:GW w) (hb:Below w.heap.size w w'):GW w':=⟨(by obtain⟨m,hm⟩:=h.maxLen;exact⟨m,pw_cell_below hb hm⟩),(tab_below hb h.pow10)⟩
end Go.Proofs.YtglhniiabhknoaaGreatDoor.PGC
