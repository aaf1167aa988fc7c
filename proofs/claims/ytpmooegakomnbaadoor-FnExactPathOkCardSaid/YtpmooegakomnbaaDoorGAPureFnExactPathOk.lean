/- The law FnExactPathOk's one statement: PathOk of the program answers as the reference's. -/
import Derived.Test.YtpmooegakomnbaaDoorSGAFnExactPathOk
import Derived.Test.YtpmooegakomnbaaDoorGAPurePath
set_option linter.unusedVariables false
set_option linter.unusedSimpArgs false
namespace Go.Proofs.YtpmooegakomnbaaDoor.Pure
open Go.RowKit Go.Proofs.YtpmooegakomnbaaDoor.PGA Go.Proofs.YtpmooegakomnbaaDoorW.PrintWords Go.Proofs.YtpmooegakomnbaaDoorW.PrintLast Go.Proofs.YtpmooegakomnbaaDoor.Aux

theorem FnExactPathOk : laws_FnExactPathOk.Pure2 := by
  intro s _
  refine Ev.get ?_
  unfold laws_FnExactPathOk.f
  refine Ev.cond (fun _ => Ev.some) fun hs => ?_
  refine Ev.succ ?_
  simp only [laws_FnExactPathOk.j0]
  refine Ev.bind (spec_path s (by omega)) (Ev.bind (impl_path s (by omega)) ?_)
  simp only [bne_self_eq_false, Bool.false_eq_true, if_false]
  exact Ev.some

end Go.Proofs.YtpmooegakomnbaaDoor.Pure
