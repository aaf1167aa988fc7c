/- What the functions come to. -/
import Derived.Test.YtpcdhoeoefoeoaaGreatDoorZGDGDPureAllFnExactRegOk
import Derived.Test.YtpcdhoeoefoeoaaGreatDoorZGDSGDFnExactRegOk
import Derived.Test.YtpcdhoeoefoeoaaGreatDoorZGDPGDx24
set_option linter.unusedVariables false
set_option linter.unusedSimpArgs false
namespace Go.Proofs.YtpcdhoeoefoeoaaGreatDoor.Pure
open Go.RowKit Go.Proofs.YtpcdhoeoefoeoaaGreatDoor.PGD Go.Proofs.YtpcdhoeoefoeoaaGreatDoorW.PrintWords Go.Proofs.YtpcdhoeoefoeoaaGreatDoorW.PrintLast Go.Proofs.YtpcdhoeoefoeoaaGreatDoor.Aux
theorem fit_entry (x : S100) (hn : needEntry x ≤ 1048576) : fitE (convEntry x) := by
 unfold needEntry needVer at hn
 have n1 := szL_nonneg x.f1.f3
 have n2 := needNeedS_nonneg x.f2
 have n4 := szL_len x.f1.f3
 refine ⟨?_, ?_, ?_, ?_, ?_⟩
 ·show x.f0.size ≤ _
  omega
 ·show x.f1.f3.length ≤ _
  omega
 ·intro z hz
  have := szL_in (l := x.f1.f3) hz
  omega
 ·show (x.f2.map convNeed).length ≤ _
  rw [List.length_map]
  omega
 ·intro z hz
  obtain ⟨y, hy, rfl⟩ := List.mem_map.1 (show z ∈ x.f2.map convNeed from hz)
  have := needNeed_mem hy
  unfold needNeed at this
  exact ⟨by show y.f0.size ≤ _; omega, by show y.f1.size ≤ _; omega⟩
theorem FnExactRegOk : laws_FnExactRegOk.Pure2 := by
 intro l hl
 refine Ev.get ?_
 unfold laws_FnExactRegOk.f
 refine Ev.bind (szEntryS l _ hl (by omega) (by omega)) ?_
 have hn := needEntryS_nonneg l
 by_cases h1 : (l.length : Int) + needEntryS l ≤ 1048576
 ·rw [left_pos h1]
  simp only [show ¬ (1048576 : Int) - ((l.length : Int) + needEntryS l) < 0 by omega, if_false]
  have hfit := fit_convEntryS l h1
  have hf : ∀ x ∈ l.map convEntry, fitE x := fun x hx => by
   obtain ⟨y, hy, rfl⟩ := List.mem_map.1 hx
   exact fit_entry y (by have := needEntry_mem hy; omega)
  refine Ev.succ ?_
  simp only [laws_FnExactRegOk.j0]
  refine Ev.bind (toEntryS l h1) (Ev.bind (spec_reg _ hfit.1 hf) (Ev.bind (toEntryS l h1) (Ev.bind (impl_reg _ hfit.1 hf) ?_)))
  simp only [bne_self_eq_false, Bool.false_eq_true, if_false]
  refine Ev.succ ?_
  simp only [laws_FnExactRegOk.j1]
  refine Ev.bind (toEntryS l h1) (Ev.bind (eqEntryS _ hfit) ?_)
  simp only [if_true]
  exact Ev.some
 ·rw [left_not h1]
  exact Ev.some
end Go.Proofs.YtpcdhoeoefoeoaaGreatDoor.Pure
