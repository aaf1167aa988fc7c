/- The law FnExactSameVal's one statement: SameVal of the program answers as the reference's, and leaves its arguments as they were. -/
import Derived.Test.YtfbbagddhfeefaaSGHFnExactSameVal
import Derived.Test.YtfbbagddhfeefaaGHPureSameVal
import Derived.Test.YtfbbagddhfeefaaPGHx6
set_option linter.unusedVariables false
set_option linter.unusedSimpArgs false
namespace Go.Proofs.Ytfbbagddhfeefaa.Pure
open Go.RowKit Go.Proofs.Ytfbbagddhfeefaa.PGH Go.Proofs.YtfbbagddhfeefaaW.PrintWords Go.Proofs.YtfbbagddhfeefaaW.PrintLast Go.Proofs.Ytfbbagddhfeefaa.Aux

theorem FnExactSameVal : laws_FnExactSameVal.Pure2 := by
  intro x y hx hy
  have hnx := needVal_nonneg x
  have hny := needVal_nonneg y
  refine Ev.get ?_
  unfold laws_FnExactSameVal.f
  refine Ev.bind (szVal x hx _ (by omega) (by omega)) ?_
  by_cases h1 : needVal x ≤ 1048576
  · rw [left_pos h1]
    simp only [show ¬ (1048576 : Int) - needVal x < 0 by omega, if_false]
    refine Ev.succ ?_
    simp only [laws_FnExactSameVal.j0]
    refine Ev.bind (szVal y hy _ (by omega) (by omega)) ?_
    by_cases h2 : needVal y ≤ 1048576 - needVal x
    · rw [left_pos h2]
      simp only [show ¬ (1048576 : Int) - needVal x - needVal y < 0 by omega, if_false]
      have tx := toVal x hx h1
      have ty := toVal y hy (by omega)
      obtain ⟨b, hb⟩ := tf (convVal x = convVal y)
      refine Ev.succ ?_
      simp only [laws_FnExactSameVal.j1]
      refine Ev.bind tx (Ev.bind ty (Ev.bind (spec_sameVal _ (fit_convVal x hx) (convVal y) b hb) (Ev.bind tx (Ev.bind ty (Ev.bind (impl_sameVal _ (fit_convVal x hx) (convVal y) b hb) ?_)))))
      simp only [bne_self_eq_false, Bool.false_eq_true, if_false]
      refine Ev.succ ?_
      simp only [laws_FnExactSameVal.j2]
      refine Ev.bind tx (Ev.bind (eqVal _ (fit_convVal x hx)) ?_)
      simp only [if_true]
      refine Ev.succ ?_
      simp only [laws_FnExactSameVal.j3]
      refine Ev.bind ty (Ev.bind (eqVal _ (fit_convVal y hy)) ?_)
      simp only [if_true]
      exact Ev.some
    · rw [left_not h2]
      exact Ev.some
  · rw [left_not h1]
    exact Ev.some

end Go.Proofs.Ytfbbagddhfeefaa.Pure
