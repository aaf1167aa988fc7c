/- What the functions come to. -/
import Derived.Test.YtpcdhoeoefoeoaaGreatDoorZGEGEPureAllFnExactPacksOk
import Derived.Test.YtpcdhoeoefoeoaaGreatDoorZGESGEFnExactPacksOk
import Derived.Test.YtpcdhoeoefoeoaaGreatDoorZGEPGEx27
set_option linter.unusedVariables false
set_option linter.unusedSimpArgs false
namespace Go.Proofs.YtpcdhoeoefoeoaaGreatDoor.Pure
open Go.RowKit Go.Proofs.YtpcdhoeoefoeoaaGreatDoor.PGE Go.Proofs.YtpcdhoeoefoeoaaGreatDoorW.PrintWords Go.Proofs.YtpcdhoeoefoeoaaGreatDoorW.PrintLast Go.Proofs.YtpcdhoeoefoeoaaGreatDoor.Aux
theorem FnExactPacksOk : laws_FnExactPacksOk.Pure2 := by
 intro l hl
 refine Ev.get ?_
 unfold laws_FnExactPacksOk.f
 refine Ev.bind (szPackS l _ hl (by omega) (by omega)) ?_
 have hn := needPackS_nonneg l
 by_cases h1 : (l.length : Int) + needPackS l ≤ 1048576
 ·rw [left_pos h1]
  simp only [show ¬ (1048576 : Int) - ((l.length : Int) + needPackS l) < 0 by omega, if_false]
  have hfit := fit_convPackS l h1
  have hf : ∀ x ∈ l.map convPack, fitK x := fun x hx => by
   obtain ⟨y, hy, rfl⟩ := List.mem_map.1 hx
   exact fit_pack y (by have := needPack_mem hy; omega)
  refine Ev.succ ?_
  simp only [laws_FnExactPacksOk.j0]
  refine Ev.bind (toPackS l h1) (Ev.bind (spec_packs _ hfit.1 hf) (Ev.bind (toPackS l h1) (Ev.bind (impl_packs _ hfit.1 hf) ?_)))
  simp only [bne_self_eq_false, Bool.false_eq_true, if_false]
  refine Ev.succ ?_
  simp only [laws_FnExactPacksOk.j1]
  refine Ev.bind (toPackS l h1) (Ev.bind (eqPackS _ hfit) ?_)
  simp only [if_true]
  exact Ev.some
 ·rw [left_not h1]
  exact Ev.some
end Go.Proofs.YtpcdhoeoefoeoaaGreatDoor.Pure
