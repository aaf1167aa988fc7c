/- The law FnExactDropFile's one statement: DropFile of the program answers as the reference's, with rows of its own, and leaves its arguments as they were. -/
import Derived.Test.YtpmooegakomnbaaDoorZGNGNPureAllFnExactDropFile
import Derived.Test.YtpmooegakomnbaaDoorZGNSGNFnExactDropFile
set_option linter.unusedVariables false
set_option linter.unusedSimpArgs false
namespace Go.Proofs.YtpmooegakomnbaaDoor.Pure
open Go.RowKit Go.Proofs.YtpmooegakomnbaaDoor.PGN Go.Proofs.YtpmooegakomnbaaDoorW.PrintWords Go.Proofs.YtpmooegakomnbaaDoorW.PrintLast Go.Proofs.YtpmooegakomnbaaDoor.Aux

theorem FnExactDropFile : laws_FnExactDropFile.Pure2 := by
  intro l a hl ha
  refine Ev.get ?_
  unfold laws_FnExactDropFile.f
  refine Ev.cond (fun _ => Ev.some) fun hA => ?_
  refine Ev.succ ?_
  simp only [laws_FnExactDropFile.j0]
  refine Ev.bind (szFileS l _ hl (by omega) (by omega)) ?_
  have hn := needFileS_nonneg l
  by_cases h1 : (l.length : Int) + needFileS l ≤ 1048576
  · rw [left_pos h1]
    simp only [show ¬ (1048576 : Int) - ((l.length : Int) + needFileS l) < 0 by omega, if_false]
    have hfit := fit_convFileS l h1
    have hll : (l.map convFile).length ≤ 1048576 := by rw [List.length_map]; omega
    have hsz : ∀ x ∈ l.map convFile, x.f0.size ≤ 16777216 := fun x hx => by
      obtain ⟨u, hu, rfl⟩ := List.mem_map.1 hx
      have := needFile_mem hu
      unfold needFile at this
      simp only [convFile]
      omega
    have hdm := dropM_mem (l.map convFile) a
    have hpl : (dropM (l.map convFile) a).1.length ≤ 1048576 := Nat.le_trans hdm.1 hll
    have hpf : (dropM (l.map convFile) a).1.length ≤ 9223372036854775807 ∧ ∀ z ∈ (dropM (l.map convFile) a).1, fitFile z := ⟨by omega, fun z hz => hfit.2 z (hdm.2 z hz)⟩
    have hsp := spec_drop (l.map convFile) a (by omega) hsz
    have him := impl_drop (l.map convFile) a (by omega) hsz
    refine Ev.succ ?_
    simp only [laws_FnExactDropFile.j1]
    refine Ev.bind (toFileS l h1) (Ev.bind hsp (Ev.bind (toFileS l h1) (Ev.bind him (Ev.bind (eqFileS _ hpf) ?_))))
    simp only [if_true, bne_self_eq_false]
    refine Ev.succ ?_
    simp only [laws_FnExactDropFile.j2, Bool.false_eq_true, if_false]
    refine Ev.succ ?_
    simp only [laws_FnExactDropFile.j3]
    refine Ev.bind (toFileS l h1) (Ev.bind (eqFileS _ hfit) ?_)
    simp only [if_true]
    refine Ev.succ ?_
    simp only [laws_FnExactDropFile.j4]
    refine Ev.bind (markFileS _ 1 (by omega) (by omega)) ?_
    refine Ev.no (by simp only; omega) ?_
    refine Ev.bind (eqFileS _ hpf) ?_
    simp only [if_true, bne_self_eq_false]
    refine Ev.succ ?_
    simp only [laws_FnExactDropFile.j5, Bool.false_eq_true, if_false]
    refine Ev.succ ?_
    simp only [laws_FnExactDropFile.j6]
    refine Ev.bind (markFileS _ 1 (by omega) (by omega)) (Ev.bind (heldFileS 1 _ (by omega) (by omega)) ?_)
    refine Ev.no (by omega) ?_
    refine Ev.succ ?_
    simp only [laws_FnExactDropFile.j7, if_true]
    refine Ev.succ ?_
    simp only [laws_FnExactDropFile.j8]
    refine Ev.bind (toFileS l h1) (Ev.bind him (Ev.bind (eqFileS _ hpf) ?_))
    simp only [if_true, bne_self_eq_false]
    refine Ev.succ ?_
    simp only [laws_FnExactDropFile.j9, Bool.false_eq_true, if_false]
    refine Ev.succ ?_
    simp only [laws_FnExactDropFile.j10]
    refine Ev.bind (heldFileS 1 _ (by omega) (by omega)) ?_
    refine Ev.no (by omega) ?_
    simp only [if_true]
    exact Ev.some
  · rw [left_not h1]
    exact Ev.some
end Go.Proofs.YtpmooegakomnbaaDoor.Pure
