/- The law FnExactGlobOk's one statement: GlobOk of the program answers as the reference's. -/
import Derived.Test.YtpmooegakomnbaaDoorSGEFnExactGlobOk
import Derived.Test.YtpmooegakomnbaaDoorGEPureGlob
set_option linter.unusedVariables false
set_option linter.unusedSimpArgs false
namespace Go.Proofs.YtpmooegakomnbaaDoor.Pure
open Go.RowKit Go.Proofs.YtpmooegakomnbaaDoor.PGE Go.Proofs.YtpmooegakomnbaaDoorW.PrintWords Go.Proofs.YtpmooegakomnbaaDoorW.PrintLast Go.Proofs.YtpmooegakomnbaaDoor.Aux

theorem FnExactGlobOk : laws_FnExactGlobOk.Pure2 := by
  intro s _
  refine Ev.get ?_
  unfold laws_FnExactGlobOk.f
  refine Ev.cond (fun _ => Ev.some) fun hs => ?_
  refine Ev.succ ?_
  simp only [laws_FnExactGlobOk.j0]
  refine Ev.bind (spec_glob s (by omega)) (Ev.bind (impl_glob s (by omega)) ?_)
  simp only [bne_self_eq_false, Bool.false_eq_true, if_false]
  exact Ev.some

end Go.Proofs.YtpmooegakomnbaaDoor.Pure
