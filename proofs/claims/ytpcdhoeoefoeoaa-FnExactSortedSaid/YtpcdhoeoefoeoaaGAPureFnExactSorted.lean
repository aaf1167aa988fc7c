/- The law FnExactSorted's one statement: Sorted of the program answers as the reference's, and hands back memory of its own. -/
import Derived.Test.YtpcdhoeoefoeoaaSGAFnExactSorted
import Derived.Test.YtpcdhoeoefoeoaaGAPureMark
import Derived.Test.YtpcdhoeoefoeoaaGAPureSorted
set_option linter.unusedVariables false
set_option linter.unusedSimpArgs false
namespace Go.Proofs.Ytpcdhoeoefoeoaa.Pure
open Go.RowKit Go.Proofs.Ytpcdhoeoefoeoaa.PGA Go.Proofs.YtpcdhoeoefoeoaaW.PrintWords Go.Proofs.YtpcdhoeoefoeoaaW.PrintLast Go.Proofs.Ytpcdhoeoefoeoaa.Aux

theorem FnExactSorted : laws_FnExactSorted.Pure2 := by
  intro l hl
  obtain ⟨hl1, hl2⟩ := hl
  unfold maxLen at hl1 hl2
  have hs : ∀ z ∈ l, z.size ≤ 9223372036854775807 := fun z hz => by have := hl2 z hz; omega
  refine Ev.get ?_
  unfold laws_FnExactSorted.f
  refine Ev.bind (szStringS l _ (by omega) hs (by omega) (by omega)) ?_
  have hn := szL_nonneg l
  by_cases h1 : szL l ≤ 1048576
  · rw [left_pos h1]
    simp only [show ¬ (1048576 : Int) - szL l < 0 by omega, if_false]
    have hT := szT_nonneg l
    have hlen : l.length ≤ 1048576 := by unfold szL at h1; omega
    have hi := impl_sorted l (by omega)
    have hsl := sortB_length l
    have hn1 : ¬ (1 + (l.length : Int)) < 0 := by omega
    have hn2 : ¬ (1 + ((sortB l).length : Int)) < 0 := by omega
    refine Ev.succ ?_
    simp only [laws_FnExactSorted.j0]
    refine Ev.bind (toStringS l (by omega)) (Ev.bind (spec_sorted l (by omega)) (Ev.bind (toStringS l (by omega)) ?_))
    simp only [hi, Option.bind_some]
    refine Ev.bind (eqStringS _ _ (by omega)) ?_
    simp only [decide_true, if_true]
    refine Ev.succ ?_
    simp only [laws_FnExactSorted.j1]
    refine Ev.bind (toStringS l (by omega)) (Ev.bind (eqStringS _ _ (by omega)) ?_)
    simp only [decide_true, if_true]
    refine Ev.succ ?_
    simp only [laws_FnExactSorted.j2]
    refine Ev.bind (markStringS l 1 (by omega) (by omega)) ?_
    simp only [hn1, if_false]
    refine Ev.bind (eqStringS _ _ (by omega)) ?_
    simp only [decide_true, Bool.not_true]
    refine Ev.succ ?_
    simp only [laws_FnExactSorted.j3, Bool.false_eq_true, if_false]
    refine Ev.succ ?_
    simp only [laws_FnExactSorted.j4]
    refine Ev.bind (markStringS _ 1 (by omega) (by omega)) (Ev.bind (heldStringS 1 _ (by omega) (by omega)) ?_)
    simp only [hn2, if_false]
    refine Ev.succ ?_
    simp only [laws_FnExactSorted.j5, if_true]
    refine Ev.succ ?_
    simp only [laws_FnExactSorted.j6]
    refine Ev.bind (toStringS l (by omega)) ?_
    simp only [hi, Option.bind_some]
    refine Ev.bind (eqStringS _ _ (by omega)) ?_
    simp only [decide_true, if_true]
    refine Ev.succ ?_
    simp only [laws_FnExactSorted.j7]
    refine Ev.bind (heldStringS 1 _ (by omega) (by omega)) ?_
    simp only [hn2, if_false, if_true]
    exact Ev.some
  · rw [left_not h1]
    exact Ev.some
end Go.Proofs.Ytpcdhoeoefoeoaa.Pure
