/- The law FnExactFilesOk's one statement: FilesOk of the program answers as the reference's, and leaves its argument as it was. -/
import Derived.Test.YtpmooegakomnbaaDoorSGBFnExactFilesOk
import Derived.Test.YtpmooegakomnbaaDoorGBPureHFile
import Derived.Test.YtpmooegakomnbaaDoorGBPureFiles
set_option linter.unusedVariables false
set_option linter.unusedSimpArgs false
namespace Go.Proofs.YtpmooegakomnbaaDoor.Pure
open Go.RowKit Go.Proofs.YtpmooegakomnbaaDoor.PGB Go.Proofs.YtpmooegakomnbaaDoorW.PrintWords Go.Proofs.YtpmooegakomnbaaDoorW.PrintLast Go.Proofs.YtpmooegakomnbaaDoor.Aux

theorem FnExactFilesOk : laws_FnExactFilesOk.Pure2 := by
  intro l hl
  refine Ev.get ?_
  unfold laws_FnExactFilesOk.f
  refine Ev.bind (szFileS l _ hl (by omega) (by omega)) ?_
  have hn := needFileS_nonneg l
  by_cases h1 : (l.length : Int) + needFileS l ≤ 1048576
  · rw [left_pos h1]
    simp only [show ¬ (1048576 : Int) - ((l.length : Int) + needFileS l) < 0 by omega, if_false]
    have hfit := fit_convFileS l h1
    have hsz : ∀ x ∈ l.map convFile, x.f0.size ≤ 16777216 := fun x hx => by
      obtain ⟨u, hu, rfl⟩ := List.mem_map.1 hx
      have := needFile_mem hu
      unfold needFile at this
      simp only [convFile]
      omega
    refine Ev.succ ?_
    simp only [laws_FnExactFilesOk.j0]
    refine Ev.bind (toFileS l h1) (Ev.bind (spec_files _ hfit.1 hsz) (Ev.bind (toFileS l h1) (Ev.bind (impl_files _ hfit.1 hsz) ?_)))
    simp only [bne_self_eq_false, Bool.false_eq_true, if_false]
    refine Ev.succ ?_
    simp only [laws_FnExactFilesOk.j1]
    refine Ev.bind (toFileS l h1) (Ev.bind (eqFileS _ hfit) ?_)
    simp only [if_true]
    exact Ev.some
  · rw [left_not h1]
    exact Ev.some

end Go.Proofs.YtpmooegakomnbaaDoor.Pure
