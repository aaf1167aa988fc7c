/- The law FnExactNumText's one statement: NumText of the program answers as the reference's. -/
import Derived.Test.YtpmooegakomnbaaDoorSGDFnExactNumText
import Derived.Test.YtpmooegakomnbaaDoorGDPureNum
set_option linter.unusedVariables false
set_option linter.unusedSimpArgs false
namespace Go.Proofs.YtpmooegakomnbaaDoor.Pure
open Go.RowKit Go.Proofs.YtpmooegakomnbaaDoor.PGD Go.Proofs.YtpmooegakomnbaaDoorW.PrintWords Go.Proofs.YtpmooegakomnbaaDoorW.PrintLast Go.Proofs.YtpmooegakomnbaaDoor.Aux

theorem FnExactNumText : laws_FnExactNumText.Pure2 := by
  intro x hx
  have h := wf_i64 hx
  refine Ev.get ?_
  unfold laws_FnExactNumText.f
  refine Ev.bind (spec_num x h.2) ?_
  simp only [impl_num x h.2, Option.bind_some, if_true]
  exact Ev.some
end Go.Proofs.YtpmooegakomnbaaDoor.Pure
