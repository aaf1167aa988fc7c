/- The law FnExactMatches's one statement: Matches of the program answers as the reference's. -/
import Derived.Test.YtpmooegakomnbaaDoorGFPureAllFnExactMatches
import Derived.Test.YtpmooegakomnbaaDoorSGFFnExactMatches
set_option linter.unusedVariables false
set_option linter.unusedSimpArgs false
namespace Go.Proofs.YtpmooegakomnbaaDoor.Pure
open Go.RowKit Go.Proofs.YtpmooegakomnbaaDoor.PGF Go.Proofs.YtpmooegakomnbaaDoorW.PrintWords Go.Proofs.YtpmooegakomnbaaDoorW.PrintLast Go.Proofs.YtpmooegakomnbaaDoor.Aux

theorem FnExactMatches : laws_FnExactMatches.Pure2 := by
  intro g p _ _
  refine Ev.get ?_
  unfold laws_FnExactMatches.f
  refine Ev.cond (fun _ => Ev.some) fun hg => ?_
  refine Ev.succ ?_
  simp only [laws_FnExactMatches.j0]
  refine Ev.cond (fun _ => Ev.some) fun hp => ?_
  refine Ev.succ ?_
  simp only [laws_FnExactMatches.j1]
  refine Ev.bind (spec_matches g p (by omega) (by omega)) (Ev.bind (impl_matches g p (by omega) (by omega)) ?_)
  simp only [bne_self_eq_false, Bool.false_eq_true, if_false]
  exact Ev.some
end Go.Proofs.YtpmooegakomnbaaDoor.Pure
