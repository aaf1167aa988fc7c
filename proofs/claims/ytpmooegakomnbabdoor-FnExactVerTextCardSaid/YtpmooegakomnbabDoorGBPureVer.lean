/- What the laws' helpers over versions come to, and SameVer of the reference and of the program. -/
import Derived.Test.YtpmooegakomnbabDoorGBPureStr
import Derived.Test.YtpmooegakomnbabDoorPGBx1
import Derived.Test.YtpmooegakomnbabDoorPGBx2
import Derived.Test.YtpmooegakomnbabDoorPGBx5
set_option linter.unusedVariables false
set_option linter.unusedSimpArgs false
namespace Go.Proofs.YtpmooegakomnbabDoor.Pure
open Go.RowKit Go.Proofs.YtpmooegakomnbabDoor.PGB Go.Proofs.YtpmooegakomnbabDoorW.PrintWords Go.Proofs.YtpmooegakomnbabDoorW.PrintLast Go.Proofs.YtpmooegakomnbabDoor.Aux

theorem szVer (a b c : Int) (l : List ByteArray) (m : Int) (hl : l.length ≤ 9223372036854775807) (hs : ∀ x ∈ l, x.size ≤ 9223372036854775807) (h0 : 0 ≤ m) (hm : m ≤ 9223372036854775807) :
    Ev (fun k => laws_szVer.f k a b c l m) (left (szL l) m) := by
  unfold laws_szVer.f
  refine Ev.bind (szStringS l m hl hs h0 hm) ?_
  by_cases h : szL l ≤ m
  · rw [left_pos h]
    simp only [show ¬ m - szL l < 0 by omega, if_false]
    exact Ev.some
  · rw [left_not h]
    exact Ev.some

theorem toVer (a b c : Int) (l : List ByteArray) (hl : l.length ≤ 17592186044416) : Ev (fun k => laws_toVer.f k a b c l) (a, b, c, l) := by
  unfold laws_toVer.f
  exact Ev.bind (toStringS l hl) Ev.some

theorem eqVer (a b c : Int) (l : List ByteArray) (hl : l.length ≤ 9223372036854775807) : Ev (fun k => laws_eqVer.f k a b c l a b c l) true := by
  unfold laws_eqVer.f
  simp only [if_true]
  refine Ev.succ ?_
  simp only [laws_eqVer.j0, if_true]
  refine Ev.succ ?_
  simp only [laws_eqVer.j1, if_true]
  refine Ev.bind (eqStringS l l hl) ?_
  simp only [decide_true, if_true]
  exact Ev.some

end Go.Proofs.YtpmooegakomnbabDoor.Pure
