/- The law FnExactParseNum's one statement: ParseNum of the program answers as the reference's. -/
import Derived.Test.YtpmooegakomnbabDoorSGAFnExactParseNum
import Derived.Test.YtpmooegakomnbabDoorGAPureParse
set_option linter.unusedVariables false
set_option linter.unusedSimpArgs false
namespace Go.Proofs.YtpmooegakomnbabDoor.Pure
open Go.RowKit Go.Proofs.YtpmooegakomnbabDoor.PGA Go.Proofs.YtpmooegakomnbabDoorW.PrintWords Go.Proofs.YtpmooegakomnbabDoorW.PrintLast Go.Proofs.YtpmooegakomnbabDoor.Aux

theorem FnExactParseNum : laws_FnExactParseNum.Pure2 := by
  intro s m _ _
  refine Ev.get ?_
  unfold laws_FnExactParseNum.f
  refine Ev.cond (fun _ => Ev.some) fun hs => ?_
  refine Ev.succ ?_
  simp only [laws_FnExactParseNum.j0]
  refine Ev.bind (spec_parse s m (by omega)) (Ev.bind (impl_parse s m) ?_)
  simp only [if_true, bne_self_eq_false, Bool.false_eq_true, if_false]
  exact Ev.some
end Go.Proofs.YtpmooegakomnbabDoor.Pure
