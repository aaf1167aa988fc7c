/- The law FnExactValOk's one statement: ValOk of the program answers as the reference's, and leaves its argument as it was. -/
import Derived.Test.YtfbbagddhfeefaaSGIFnExactValOk
import Derived.Test.YtfbbagddhfeefaaGIPureValOk
import Derived.Test.YtfbbagddhfeefaaPGIx7
set_option linter.unusedVariables false
set_option linter.unusedSimpArgs false
namespace Go.Proofs.Ytfbbagddhfeefaa.Pure
open Go.RowKit Go.Proofs.Ytfbbagddhfeefaa.PGI Go.Proofs.YtfbbagddhfeefaaW.PrintWords Go.Proofs.YtfbbagddhfeefaaW.PrintLast Go.Proofs.Ytfbbagddhfeefaa.Aux

theorem FnExactValOk : laws_FnExactValOk.Pure2 := by
  intro x hx
  have hnx := needVal_nonneg x
  refine Ev.get ?_
  unfold laws_FnExactValOk.f
  refine Ev.bind (szVal x hx _ (by omega) (by omega)) ?_
  by_cases h1 : needVal x ≤ 1048576
  · rw [left_pos h1]
    simp only [show ¬ (1048576 : Int) - needVal x < 0 by omega, if_false]
    have tx := toVal x hx h1
    obtain ⟨b, hb, hb'⟩ := valOk (convVal x) (fit_convVal x hx)
    refine Ev.succ ?_
    simp only [laws_FnExactValOk.j0]
    refine Ev.bind tx (Ev.bind hb (Ev.bind tx (Ev.bind hb' ?_)))
    simp only [bne_self_eq_false, Bool.false_eq_true, if_false]
    refine Ev.succ ?_
    simp only [laws_FnExactValOk.j1]
    refine Ev.bind tx (Ev.bind (eqVal _ (fit_convVal x hx)) ?_)
    simp only [if_true]
    exact Ev.some
  · rw [left_not h1]
    exact Ev.some

end Go.Proofs.Ytfbbagddhfeefaa.Pure
