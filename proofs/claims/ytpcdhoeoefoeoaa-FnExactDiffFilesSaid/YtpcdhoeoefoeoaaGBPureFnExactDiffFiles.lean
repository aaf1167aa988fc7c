/- The law FnExactDiffFiles' one statement: DiffFiles of the program answers as the reference's, with a row of its own, and leaves its arguments as they were. -/
import Derived.Test.YtpcdhoeoefoeoaaSGBFnExactDiffFiles
import Derived.Test.YtpcdhoeoefoeoaaGBPureHFile
import Derived.Test.YtpcdhoeoefoeoaaGBPureMarkFile
import Derived.Test.YtpcdhoeoefoeoaaGBPureDiffFiles
set_option linter.unusedVariables false
set_option linter.unusedSimpArgs false
namespace Go.Proofs.Ytpcdhoeoefoeoaa.Pure
open Go.RowKit Go.Proofs.Ytpcdhoeoefoeoaa.PGB Go.Proofs.YtpcdhoeoefoeoaaW.PrintWords Go.Proofs.YtpcdhoeoefoeoaaW.PrintLast Go.Proofs.Ytpcdhoeoefoeoaa.Aux

theorem Ev.skip {α : Type} {c : Prop} [Decidable c] {g f : Nat → Option α} {r : α} (hc : ¬ c) (h : Ev f r) : Ev (fun k => if c then g k else f k) r := by
  simpa only [hc, if_false] using h
theorem FnExactDiffFiles : laws_FnExactDiffFiles.Pure2 := by
  intro l m hl hm
  refine Ev.get ?_
  unfold laws_FnExactDiffFiles.f
  refine Ev.bind (szFileS l _ hl (by omega) (by omega)) ?_
  have hn := needFileS_nonneg l
  have hn' := needFileS_nonneg m
  by_cases h1 : (l.length : Int) + needFileS l ≤ 1048576
  · rw [left_pos h1]
    simp only [show ¬ (1048576 : Int) - ((l.length : Int) + needFileS l) < 0 by omega, if_false]
    refine Ev.succ ?_
    simp only [laws_FnExactDiffFiles.j0]
    refine Ev.bind (szFileS m _ hm (by omega) (by omega)) ?_
    by_cases h2 : (m.length : Int) + needFileS m ≤ 1048576 - ((l.length : Int) + needFileS l)
    · rw [left_pos h2]
      refine Ev.skip (by omega) ?_
      have h2' : (m.length : Int) + needFileS m ≤ 1048576 := by omega
      have hfl := fit_convFileS l h1
      have hfm := fit_convFileS m h2'
      have hll : (l.map convFile).length ≤ 1048576 := by rw [List.length_map]; omega
      have hlm : (m.map convFile).length ≤ 1048576 := by rw [List.length_map]; omega
      have hd := diffM_length (l.map convFile) (m.map convFile)
      have hsp := spec_diff (l.map convFile) (m.map convFile) (by omega) (by omega)
      have him := impl_diff (l.map convFile) (m.map convFile) (by omega) (by omega)
      refine Ev.succ ?_
      simp only [laws_FnExactDiffFiles.j1]
      refine Ev.bind (toFileS l h1) (Ev.bind (toFileS m h2') (Ev.bind hsp (Ev.bind (toFileS l h1) (Ev.bind (toFileS m h2') (Ev.bind him (Ev.bind (eqStringS _ _ (by omega)) ?_))))))
      simp only [decide_true, if_true]
      refine Ev.succ ?_
      simp only [laws_FnExactDiffFiles.j2]
      refine Ev.bind (toFileS l h1) (Ev.bind (eqFileS _ hfl) ?_)
      simp only [if_true]
      refine Ev.succ ?_
      simp only [laws_FnExactDiffFiles.j3]
      refine Ev.bind (toFileS m h2') (Ev.bind (eqFileS _ hfm) ?_)
      simp only [if_true]
      refine Ev.succ ?_
      simp only [laws_FnExactDiffFiles.j4]
      refine Ev.bind (markFileS _ 1 (by omega) (by omega)) (Ev.bind (markFileS _ _ (by simp only; omega) (by simp only; omega)) ?_)
      refine Ev.skip (by simp only; omega) ?_
      refine Ev.bind (eqStringS _ _ (by omega)) ?_
      simp only [decide_true, Bool.not_true]
      refine Ev.succ ?_
      simp only [laws_FnExactDiffFiles.j5, Bool.false_eq_true, if_false]
      refine Ev.succ ?_
      simp only [laws_FnExactDiffFiles.j6]
      refine Ev.bind (markStringS _ 1 (by omega) (by omega)) (Ev.bind (heldStringS 1 _ (by omega) (by omega)) ?_)
      refine Ev.skip (by omega) ?_
      refine Ev.succ ?_
      simp only [laws_FnExactDiffFiles.j7, if_true]
      refine Ev.succ ?_
      simp only [laws_FnExactDiffFiles.j8]
      refine Ev.bind (toFileS l h1) (Ev.bind (toFileS m h2') (Ev.bind him (Ev.bind (eqStringS _ _ (by omega)) ?_)))
      simp only [decide_true, if_true]
      refine Ev.succ ?_
      simp only [laws_FnExactDiffFiles.j9]
      refine Ev.bind (heldStringS 1 _ (by omega) (by omega)) ?_
      refine Ev.skip (by omega) ?_
      simp only [if_true]
      exact Ev.some
    · rw [left_not h2]
      exact Ev.some
  · rw [left_not h1]
    exact Ev.some
end Go.Proofs.Ytpcdhoeoefoeoaa.Pure
