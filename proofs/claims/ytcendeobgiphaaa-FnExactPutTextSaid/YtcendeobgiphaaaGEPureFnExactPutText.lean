/- The law FnExactPutText's one statement: PutText of the program answers as the reference's, leaves its argument as it was, and hands back memory of its own. -/
import Derived.Test.YtcendeobgiphaaaSGEFnExactPutText
import Derived.Test.YtcendeobgiphaaaGEPureBytes
import Derived.Test.YtcendeobgiphaaaGEPurePutText
import Derived.Test.YtcendeobgiphaaaPGEx2
set_option linter.unusedVariables false
set_option linter.unusedSimpArgs false
namespace Go.Proofs.Ytcendeobgiphaaa.Pure
open Go.RowKit Go.Proofs.Ytcendeobgiphaaa.PGE Go.Proofs.YtcendeobgiphaaaW.PrintWords Go.Proofs.YtcendeobgiphaaaW.PrintLast Go.Proofs.Ytcendeobgiphaaa.Aux

theorem FnExactPutText : laws_FnExactPutText.Pure2 := by
  intro l s _ _
  refine Ev.get ?_
  unfold laws_FnExactPutText.f
  refine Ev.cond (fun _ => Ev.some) fun hl => ?_
  refine Ev.succ ?_
  simp only [laws_FnExactPutText.j0]
  refine Ev.cond (fun _ => Ev.some) fun hs => ?_
  have hl' : l.length ≤ 1048576 := by omega
  have hs' : s.size ≤ 1048576 := by omega
  have hp := putB_length l s hs'
  have hpos : ∀ n : Nat, ¬ (1 + (n : Int)) < 0 := fun n => by omega
  refine Ev.succ ?_
  simp only [laws_FnExactPutText.j1, spec_put l s hl' hs', impl_put l s hl' hs', Option.bind_some]
  refine Ev.bind (toByteS l (by omega)) ?_
  simp only [spec_put l s hl' hs', Option.bind_some]
  refine Ev.bind (toByteS l (by omega)) ?_
  simp only [impl_put l s hl' hs', Option.bind_some]
  refine Ev.bind (eqByteS _ (by omega)) ?_
  simp only [if_true]
  refine Ev.succ ?_
  simp only [laws_FnExactPutText.j2]
  refine Ev.bind (toByteS l (by omega)) (Ev.bind (eqByteS _ (by omega)) ?_)
  simp only [if_true]
  refine Ev.succ ?_
  simp only [laws_FnExactPutText.j3]
  refine Ev.bind (markByteS l (by omega)) ?_
  simp only [hpos, if_false]
  refine Ev.bind (eqByteS _ (by omega)) ?_
  simp only [Bool.not_true]
  refine Ev.succ ?_
  simp only [laws_FnExactPutText.j4, Bool.false_eq_true, if_false]
  refine Ev.succ ?_
  simp only [laws_FnExactPutText.j5]
  refine Ev.bind (markByteS _ (by omega)) (Ev.bind (heldByteS _ (by omega)) ?_)
  simp only [hpos, if_false]
  refine Ev.succ ?_
  simp only [laws_FnExactPutText.j6, if_true]
  refine Ev.succ ?_
  simp only [laws_FnExactPutText.j7]
  refine Ev.bind (toByteS l (by omega)) ?_
  simp only [impl_put l s hl' hs', Option.bind_some]
  refine Ev.bind (eqByteS _ (by omega)) ?_
  simp only [if_true]
  refine Ev.succ ?_
  simp only [laws_FnExactPutText.j8]
  refine Ev.bind (heldByteS _ (by omega)) ?_
  simp only [hpos, if_false, if_true]
  exact Ev.some

end Go.Proofs.Ytcendeobgiphaaa.Pure
