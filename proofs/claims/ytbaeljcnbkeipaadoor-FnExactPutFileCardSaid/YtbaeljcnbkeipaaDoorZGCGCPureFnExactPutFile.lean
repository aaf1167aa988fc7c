/- What the functions come to. -/
import Derived.Test.YtbaeljcnbkeipaaDoorZGCGCPureAllFnExactPutFile
import Derived.Test.YtbaeljcnbkeipaaDoorZGCSGCFnExactPutFile
set_option linter.unusedVariables false
set_option linter.unusedSimpArgs false
namespace Go.Proofs.YtbaeljcnbkeipaaDoor.Pure
open Go.RowKit Go.Proofs.YtbaeljcnbkeipaaDoor.PGC Go.Proofs.YtbaeljcnbkeipaaDoorW.PrintWords Go.Proofs.YtbaeljcnbkeipaaDoorW.PrintLast Go.Proofs.YtbaeljcnbkeipaaDoor.Aux
theorem FnExactPutFile : laws_FnExactPutFile.Pure2 := by
 intro l f hl hf
 refine Ev.get ?_
 unfold laws_FnExactPutFile.f
 refine Ev.bind (szFileS l _ hl (by omega) (by omega)) ?_
 have hn := needFileS_nonneg l
 by_cases h1 : (l.length : Int) + needFileS l ≤ 1048576
 ·rw [left_pos h1]
  refine Ev.no (by omega) ?_
  refine Ev.succ ?_
  simp only [laws_FnExactPutFile.j0]
  have hm := needFile_nonneg f
  refine Ev.bind (szFile f _ hf (by omega) (by omega)) ?_
  by_cases h2 : needFile f ≤ 1048576 - ((l.length : Int) + needFileS l)
  ·rw [left_pos h2]
   refine Ev.no (by omega) ?_
   have hfn : needFile f ≤ 1048576 := by omega
   have hfit := fit_convFileS l h1
   have hff := fit_convFile f hfn
   have hll : (l.map convFile).length ≤ 1048576 := by rw [List.length_map]; omega
   have hsz : ∀ x ∈ l.map convFile, x.f0.size ≤ 16777216 := fun x hx => by
    obtain ⟨u, hu, rfl⟩ := List.mem_map.1 hx
    have := needFile_mem hu
    unfold needFile at this
    simp only [convFile]
    omega
   have hfz : (convFile f).f0.size ≤ 16777216 := by
    have := hfn
    unfold needFile at this
    simp only [convFile]
    omega
   have hpm := putM_mem (l.map convFile) (convFile f)
   have hpl : (putM (l.map convFile) (convFile f)).1.length ≤ 1048577 := by omega
   have hpf : (putM (l.map convFile) (convFile f)).1.length ≤ 9223372036854775807 ∧ ∀ z ∈ (putM (l.map convFile) (convFile f)).1, fitFile z := ⟨by omega, fun z hz => (hpm.2 z hz).elim (fun e => e ▸ hff) (hfit.2 z)⟩
   have hsp := spec_put (l.map convFile) (convFile f) (by omega) hfz hsz
   have him := impl_put (l.map convFile) (convFile f) (by omega) hfz hsz
   refine Ev.succ ?_
   simp only [laws_FnExactPutFile.j1]
   refine Ev.bind (toFileS l h1) (Ev.bind (toFile f hfn) (Ev.bind hsp (Ev.bind (toFileS l h1) (Ev.bind (toFile f hfn) (Ev.bind him (Ev.bind (eqFileS _ hpf) ?_))))))
   simp only [if_true, bne_self_eq_false]
   refine Ev.succ ?_
   simp only [laws_FnExactPutFile.j2, Bool.false_eq_true, if_false]
   refine Ev.succ ?_
   simp only [laws_FnExactPutFile.j3]
   refine Ev.bind (toFileS l h1) (Ev.bind (eqFileS _ hfit) ?_)
   simp only [if_true]
   refine Ev.succ ?_
   simp only [laws_FnExactPutFile.j4]
   refine Ev.bind (markFileS _ 1 (by omega) (by omega)) ?_
   refine Ev.no (by simp only; omega) ?_
   refine Ev.bind (eqFileS _ hpf) ?_
   simp only [if_true, bne_self_eq_false]
   refine Ev.succ ?_
   simp only [laws_FnExactPutFile.j5, Bool.false_eq_true, if_false]
   refine Ev.succ ?_
   simp only [laws_FnExactPutFile.j6]
   refine Ev.bind (markFileS _ 1 (by omega) (by omega)) (Ev.bind (heldFileS 1 _ (by omega) (by omega)) ?_)
   refine Ev.no (by omega) ?_
   refine Ev.succ ?_
   simp only [laws_FnExactPutFile.j7, if_true]
   refine Ev.succ ?_
   simp only [laws_FnExactPutFile.j8]
   refine Ev.bind (toFileS l h1) (Ev.bind (toFile f hfn) (Ev.bind him (Ev.bind (eqFileS _ hpf) ?_)))
   simp only [if_true, bne_self_eq_false]
   refine Ev.succ ?_
   simp only [laws_FnExactPutFile.j9, Bool.false_eq_true, if_false]
   refine Ev.succ ?_
   simp only [laws_FnExactPutFile.j10]
   refine Ev.bind (heldFileS 1 _ (by omega) (by omega)) ?_
   refine Ev.no (by omega) ?_
   simp only [if_true]
   exact Ev.some
  ·rw [left_not h2]
   exact Ev.some
 ·rw [left_not h1]
  exact Ev.some
end Go.Proofs.YtbaeljcnbkeipaaDoor.Pure
