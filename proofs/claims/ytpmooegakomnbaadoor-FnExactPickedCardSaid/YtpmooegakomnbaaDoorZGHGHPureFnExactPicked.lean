/- The law FnExactPicked's one statement: Picked of the program answers as the reference's, with rows of its own, and leaves its arguments as they were. -/
import Derived.Test.YtpmooegakomnbaaDoorZGHGHPureAllFnExactPicked
import Derived.Test.YtpmooegakomnbaaDoorZGHSGHFnExactPicked
set_option linter.unusedVariables false
set_option linter.unusedSimpArgs false
namespace Go.Proofs.YtpmooegakomnbaaDoor.Pure
open Go.RowKit Go.Proofs.YtpmooegakomnbaaDoor.PGH Go.Proofs.YtpmooegakomnbaaDoorW.PrintWords Go.Proofs.YtpmooegakomnbaaDoorW.PrintLast Go.Proofs.YtpmooegakomnbaaDoor.Aux

theorem szL_mem : ∀ {l : List ByteArray} {x : ByteArray}, x ∈ l → (x.size : Int) ≤ szT l
  | y :: r, x, h => by
    have h2 := szT_nonneg r
    simp only [szT]
    rcases List.mem_cons.1 h with rfl | h
    · omega
    · have := szL_mem h; omega
theorem FnExactPicked : laws_FnExactPicked.Pure2 := by
  intro l gs hl hgs
  obtain ⟨hg1, hg2⟩ := hgs
  unfold maxLen at hg1 hg2
  refine Ev.get ?_
  unfold laws_FnExactPicked.f
  refine Ev.bind (szFileS l _ hl (by omega) (by omega)) ?_
  have hn := needFileS_nonneg l
  by_cases h1 : (l.length : Int) + needFileS l ≤ 1048576
  · rw [left_pos h1]
    simp only [show ¬ (1048576 : Int) - ((l.length : Int) + needFileS l) < 0 by omega, if_false]
    refine Ev.succ ?_
    simp only [laws_FnExactPicked.j0]
    have hgn := szL_nonneg gs
    refine Ev.bind (szStringS gs _ (by omega) (fun x hx => by have := hg2 x hx; omega) (by omega) (by omega)) ?_
    by_cases h2 : szL gs ≤ 1048576 - ((l.length : Int) + needFileS l)
    · rw [left_pos h2]
      simp only [show ¬ (1048576 : Int) - ((l.length : Int) + needFileS l) - szL gs < 0 by omega, if_false]
      have hgl : gs.length ≤ 1048576 := by have := szT_nonneg gs; unfold szL at h2; omega
      have hgz : ∀ x ∈ gs, x.size ≤ 8388608 := fun x hx => by
        have := szL_mem hx
        unfold szL at h2
        omega
      have hfit := fit_convFileS l h1
      have hll : (l.map convFile).length ≤ 1048576 := by rw [List.length_map]; omega
      have hsz : ∀ x ∈ l.map convFile, x.f0.size ≤ 8388608 := fun x hx => by
        obtain ⟨u, hu, rfl⟩ := List.mem_map.1 hx
        have := needFile_mem hu
        unfold needFile at this
        simp only [convFile]
        omega
      have hpl : (pickL gs (l.map convFile)).length ≤ 1048576 := Nat.le_trans (List.length_filter_le _ _) hll
      have hpf : (pickL gs (l.map convFile)).length ≤ 9223372036854775807 ∧ ∀ z ∈ pickL gs (l.map convFile), fitFile z := ⟨by omega, fun z hz => hfit.2 z (List.mem_filter.1 hz).1⟩
      have hsp := spec_picked gs (by omega) hgz (l.map convFile) (by omega) hsz
      have him := impl_picked gs (by omega) hgz (l.map convFile) (by omega) hsz
      refine Ev.succ ?_
      simp only [laws_FnExactPicked.j1]
      refine Ev.bind (toFileS l h1) (Ev.bind (toStringS gs (by omega)) (Ev.bind hsp (Ev.bind (toFileS l h1) (Ev.bind (toStringS gs (by omega)) (Ev.bind him (Ev.bind (eqFileS _ hpf) ?_))))))
      simp only [if_true]
      refine Ev.succ ?_
      simp only [laws_FnExactPicked.j2]
      refine Ev.bind (toFileS l h1) (Ev.bind (eqFileS _ hfit) ?_)
      simp only [if_true]
      refine Ev.succ ?_
      simp only [laws_FnExactPicked.j3]
      refine Ev.bind (toStringS gs (by omega)) (Ev.bind (eqStringS gs gs (by omega)) ?_)
      simp only [decide_true, if_true]
      refine Ev.succ ?_
      simp only [laws_FnExactPicked.j4]
      refine Ev.bind (markFileS _ 1 (by omega) (by omega)) (Ev.bind (markStringS gs _ (by omega) (by simp only; omega)) ?_)
      refine Ev.no (by simp only; omega) ?_
      refine Ev.bind (eqFileS _ hpf) ?_
      simp only [Bool.not_true]
      refine Ev.succ ?_
      simp only [laws_FnExactPicked.j5, Bool.false_eq_true, if_false]
      refine Ev.succ ?_
      simp only [laws_FnExactPicked.j6]
      refine Ev.bind (markFileS _ 1 (by omega) (by omega)) (Ev.bind (heldFileS 1 _ (by omega) (by omega)) ?_)
      refine Ev.no (by omega) ?_
      refine Ev.succ ?_
      simp only [laws_FnExactPicked.j7, if_true]
      refine Ev.succ ?_
      simp only [laws_FnExactPicked.j8]
      refine Ev.bind (toFileS l h1) (Ev.bind (toStringS gs (by omega)) (Ev.bind him (Ev.bind (eqFileS _ hpf) ?_)))
      simp only [if_true]
      refine Ev.succ ?_
      simp only [laws_FnExactPicked.j9]
      refine Ev.bind (heldFileS 1 _ (by omega) (by omega)) ?_
      refine Ev.no (by omega) ?_
      simp only [if_true]
      exact Ev.some
    · rw [left_not h2]
      exact Ev.some
  · rw [left_not h1]
    exact Ev.some
end Go.Proofs.YtpmooegakomnbaaDoor.Pure
