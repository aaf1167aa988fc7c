/- The law FnExactGetFile's one statement: GetFile of the program answers as the reference's, and leaves its argument as it was. -/
import Derived.Test.YtfbbagddhfeefaaSGAFnExactGetFile
import Derived.Test.YtfbbagddhfeefaaGAPureHFile
import Derived.Test.YtfbbagddhfeefaaGAPureGetFile
set_option linter.unusedVariables false
set_option linter.unusedSimpArgs false
namespace Go.Proofs.Ytfbbagddhfeefaa.Pure
open Go.RowKit Go.Proofs.Ytfbbagddhfeefaa.PGA Go.Proofs.YtfbbagddhfeefaaW.PrintWords Go.Proofs.YtfbbagddhfeefaaW.PrintLast Go.Proofs.Ytfbbagddhfeefaa.Aux

theorem FnExactGetFile : laws_FnExactGetFile.Pure2 := by
  intro l a hl ha
  refine Ev.get ?_
  unfold laws_FnExactGetFile.f
  refine Ev.cond (fun _ => Ev.some) fun _ => ?_
  refine Ev.succ ?_
  simp only [laws_FnExactGetFile.j0]
  refine Ev.bind (szFileS l _ hl (by omega) (by omega)) ?_
  have hn := needFileS_nonneg l
  by_cases h1 : (l.length : Int) + needFileS l ≤ 1048576
  · rw [left_pos h1]
    simp only [show ¬ (1048576 : Int) - ((l.length : Int) + needFileS l) < 0 by omega, if_false]
    have hfit := fit_convFileS l h1
    refine Ev.succ ?_
    simp only [laws_FnExactGetFile.j1]
    refine Ev.bind (toFileS l h1) (Ev.bind (spec_get _ a hfit.1) (Ev.bind (toFileS l h1) ?_))
    rw [impl_get]
    simp only [Option.bind_some, if_true, bne_self_eq_false]
    refine Ev.succ ?_
    simp only [laws_FnExactGetFile.j2, Bool.false_eq_true, if_false]
    refine Ev.succ ?_
    simp only [laws_FnExactGetFile.j3]
    refine Ev.bind (toFileS l h1) (Ev.bind (eqFileS _ hfit) ?_)
    simp only [if_true]
    exact Ev.some
  · rw [left_not h1]
    exact Ev.some

end Go.Proofs.Ytfbbagddhfeefaa.Pure
