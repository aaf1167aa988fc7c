/- What the functions come to. -/
import Derived.Test.YtpcdhoeoefoeoaaGreatDoorZGCGCPureAllFnExactPackOk
import Derived.Test.YtpcdhoeoefoeoaaGreatDoorZGCSGCFnExactPackOk
import Derived.Test.YtpcdhoeoefoeoaaGreatDoorZGCPGCx26
set_option linter.unusedVariables false
set_option linter.unusedSimpArgs false
namespace Go.Proofs.YtpcdhoeoefoeoaaGreatDoor.Pure
open Go.RowKit Go.Proofs.YtpcdhoeoefoeoaaGreatDoor.PGC Go.Proofs.YtpcdhoeoefoeoaaGreatDoorW.PrintWords Go.Proofs.YtpcdhoeoefoeoaaGreatDoorW.PrintLast Go.Proofs.YtpcdhoeoefoeoaaGreatDoor.Aux
theorem FnExactPackOk : laws_FnExactPackOk.Pure2 := by
 intro x hx
 refine Ev.get ?_
 unfold laws_FnExactPackOk.f
 refine Ev.bind (szPack x _ hx (by omega) (by omega)) ?_
 have hn := needPack_nonneg x
 by_cases h1 : needPack x ≤ 1048576
 ·rw [left_pos h1]
  simp only [show ¬ (1048576 : Int) - needPack x < 0 by omega, if_false]
  have hf := fit_pack x h1
  refine Ev.succ ?_
  simp only [laws_FnExactPackOk.j0]
  refine Ev.bind (toPack x h1) (Ev.bind (spec_pack _ _ _ _ hf) (Ev.bind (toPack x h1) (Ev.bind (impl_pack _ _ _ _ hf) ?_)))
  simp only [bne_self_eq_false, Bool.false_eq_true, if_false]
  refine Ev.succ ?_
  simp only [laws_FnExactPackOk.j1]
  refine Ev.bind (toPack x h1) (Ev.bind (eqPack _ (fit_convPack x h1)) ?_)
  simp only [if_true]
  exact Ev.some
 ·rw [left_not h1]
  exact Ev.some
end Go.Proofs.YtpcdhoeoefoeoaaGreatDoor.Pure
