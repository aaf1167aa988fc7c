/- The law FnExactFindPack's one statement: FindPack of the program answers as the reference's, and leaves its argument as it was. -/
import Derived.Test.YtfbbagddhfeefaaSGAFnExactFindPack
import Derived.Test.YtfbbagddhfeefaaGAPureHPack
import Derived.Test.YtfbbagddhfeefaaGAPureFindPack
set_option linter.unusedVariables false
set_option linter.unusedSimpArgs false
namespace Go.Proofs.Ytfbbagddhfeefaa.Pure
open Go.RowKit Go.Proofs.Ytfbbagddhfeefaa.PGA Go.Proofs.YtfbbagddhfeefaaW.PrintWords Go.Proofs.YtfbbagddhfeefaaW.PrintLast Go.Proofs.Ytfbbagddhfeefaa.Aux

theorem FnExactFindPack : laws_FnExactFindPack.Pure2 := by
  intro l a hl ha
  refine Ev.get ?_
  unfold laws_FnExactFindPack.f
  refine Ev.cond (fun _ => Ev.some) fun _ => ?_
  refine Ev.succ ?_
  simp only [laws_FnExactFindPack.j0]
  refine Ev.bind (szPackS l _ hl (by omega) (by omega)) ?_
  have hn := needPackS_nonneg l
  by_cases h1 : (l.length : Int) + needPackS l ≤ 1048576
  · rw [left_pos h1]
    simp only [show ¬ (1048576 : Int) - ((l.length : Int) + needPackS l) < 0 by omega, if_false]
    have hfit := fit_convPackS l h1
    refine Ev.succ ?_
    simp only [laws_FnExactFindPack.j1]
    refine Ev.bind (toPackS l h1) (Ev.bind (spec_find _ a hfit.1) (Ev.bind (toPackS l h1) ?_))
    rw [impl_find]
    simp only [Option.bind_some, if_true, bne_self_eq_false]
    first | simp only [if_false] | skip
    first | (refine Ev.succ ?_; simp only [laws_FnExactFindPack.j2, Bool.false_eq_true, if_false]) | skip
    refine Ev.bind (toPackS l h1) (Ev.bind (eqPackS _ hfit) ?_)
    simp only [if_true]
    exact Ev.some
  · rw [left_not h1]
    exact Ev.some

end Go.Proofs.Ytfbbagddhfeefaa.Pure
