/- The law FnExactRangeText's one statement: RangeText of the program answers as the reference's, and leaves its argument as it was. -/
import Derived.Test.YtpmooegakomnbabDoorGCPureAllFnExactRangeText
import Derived.Test.YtpmooegakomnbabDoorSGCFnExactRangeText
import Derived.Test.YtpmooegakomnbabDoorPGCx9
set_option linter.unusedVariables false
set_option linter.unusedSimpArgs false
namespace Go.Proofs.YtpmooegakomnbabDoor.Pure
open Go.RowKit Go.Proofs.YtpmooegakomnbabDoor.PGC Go.Proofs.YtpmooegakomnbabDoorW.PrintWords Go.Proofs.YtpmooegakomnbabDoorW.PrintLast Go.Proofs.YtpmooegakomnbabDoor.Aux

theorem FnExactRangeText : laws_FnExactRangeText.Pure2 := by
  intro r hr
  refine Ev.get ?_
  unfold laws_FnExactRangeText.f
  refine Ev.bind (szCmpSS r _ hr (by omega) (by omega)) ?_
  have hn := needCmpSS_nonneg r
  by_cases h1 : (r.length : Int) + needCmpSS r ≤ 1048576
  · rw [left_pos h1]
    simp only [show ¬ (1048576 : Int) - ((r.length : Int) + needCmpSS r) < 0 by omega, if_false]
    have hfit := fit_convCmpSS r h1
    have hst : ∀ z ∈ convCmpSS r, z.length ≤ 1048576 ∧ ∀ x ∈ z, stR x := by
      intro z hz
      obtain ⟨u, hu, rfl⟩ := List.mem_map.1 hz
      have hu1 := needCmpSS_mem hu
      have hu2 := needCmpS_nonneg u
      refine ⟨by rw [List.length_map]; omega, fun x hx => ?_⟩
      obtain ⟨v, hv, rfl⟩ := List.mem_map.1 hx
      have hv1 := needCmp_mem hv
      have hv2 : szL v.f1.f3 ≤ 1048576 := by
        have : needCmp v = szL v.f1.f3 := by first | rfl | (unfold needCmp needVer; omega)
        omega
      obtain ⟨_, _, _, _, o1, o2⟩ := (hr.2 u hu).2 v hv
      unfold maxLen at o1 o2
      refine ⟨by show v.f1.f3.length ≤ _; omega, fun s hs => by have := o2 s hs; omega, ?_⟩
      have h1 := lens_szT v.f1.f3
      have h2 := szT_nonneg v.f1.f3
      have hlen : v.f1.f3.length ≤ 1048576 := by unfold szL at hv2; omega
      have h3 : dot.size * v.f1.f3.length ≤ 1 * 1048576 := Nat.mul_le_mul (Nat.le_refl _) hlen
      show joinN v.f1.f3 dot ≤ _
      unfold joinN
      unfold szL at hv2
      omega
    have hl : (convCmpSS r).length ≤ 1048576 := by unfold convCmpSS; rw [List.length_map]; omega
    refine Ev.succ ?_
    simp only [laws_FnExactRangeText.j0]
    refine Ev.bind (toCmpSS r h1) (Ev.bind (spec_range _ hl hst) (Ev.bind (toCmpSS r h1) (Ev.bind (impl_range _ hl hst) ?_)))
    simp only [if_true]
    refine Ev.succ ?_
    simp only [laws_FnExactRangeText.j1]
    refine Ev.bind (toCmpSS r h1) (Ev.bind (eqCmpSS _ hfit) ?_)
    simp only [if_true]
    exact Ev.some
  · rw [left_not h1]
    exact Ev.some

end Go.Proofs.YtpmooegakomnbabDoor.Pure
