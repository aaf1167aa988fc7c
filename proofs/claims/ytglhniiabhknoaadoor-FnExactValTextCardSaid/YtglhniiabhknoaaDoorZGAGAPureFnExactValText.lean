/- What the functions come to. -/
import Derived.Test.YtglhniiabhknoaaDoorZGAGAPureAllFnExactValText
import Derived.Test.YtglhniiabhknoaaDoorZGASGAFnExactValText
import Derived.Test.YtglhniiabhknoaaDoorZGAPGAx8
set_option linter.unusedVariables false
set_option linter.unusedSimpArgs false
namespace Go.Proofs.YtglhniiabhknoaaDoor.Pure
open Go.RowKit Go.Proofs.YtglhniiabhknoaaDoor.PGA Go.Proofs.YtglhniiabhknoaaDoorW.PrintWords Go.Proofs.YtglhniiabhknoaaDoorW.PrintLast Go.Proofs.YtglhniiabhknoaaDoor.Aux
theorem FnExactValText : laws_FnExactValText.Pure2 := by
 intro x hx
 have hnx := needVal_nonneg x
 refine Ev.get ?_
 unfold laws_FnExactValText.f
 refine Ev.bind (szVal x hx _ (by omega) (by omega)) ?_
 by_cases h1 : needVal x ≤ 1048576
 ·rw [left_pos h1]
  simp only [show ¬ (1048576 : Int) - needVal x < 0 by omega, if_false]
  have tx := toVal x hx h1
  obtain ⟨t, hb, hb'⟩ := spec_valtext (convVal x) (fit_convVal x hx) (by rw [sizV_conv]; exact h1)
  refine Ev.succ ?_
  simp only [laws_FnExactValText.j0]
  refine Ev.bind tx (Ev.bind hb (Ev.bind tx (Ev.bind hb' ?_)))
  simp only [if_true]
  refine Ev.succ ?_
  simp only [laws_FnExactValText.j1]
  refine Ev.bind tx (Ev.bind (eqVal _ (fit_convVal x hx)) ?_)
  simp only [if_true]
  exact Ev.some
 ·rw [left_not h1]
  exact Ev.some
end Go.Proofs.YtglhniiabhknoaaDoor.Pure
