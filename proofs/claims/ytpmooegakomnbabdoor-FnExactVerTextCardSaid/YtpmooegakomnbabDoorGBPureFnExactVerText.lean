/- The law FnExactVerText's one statement: VerText of the program answers as the reference's, and leaves its argument as it was. -/
import Derived.Test.YtpmooegakomnbabDoorSGBFnExactVerText
import Derived.Test.YtpmooegakomnbabDoorGBPureVer
import Derived.Test.YtpmooegakomnbabDoorGBPureVerText
set_option linter.unusedVariables false
set_option linter.unusedSimpArgs false
namespace Go.Proofs.YtpmooegakomnbabDoor.Pure
open Go.RowKit Go.Proofs.YtpmooegakomnbabDoor.PGB Go.Proofs.YtpmooegakomnbabDoorW.PrintWords Go.Proofs.YtpmooegakomnbabDoorW.PrintLast Go.Proofs.YtpmooegakomnbabDoor.Aux

theorem joinN_dot (l : List ByteArray) (h : szL l ≤ 1048576) : joinN l dot ≤ 2199023255552 := by
  have h1 := lens_szT l
  have h2 := szT_nonneg l
  have hlen : l.length ≤ 1048576 := by unfold szL at h; omega
  have h3 : dot.size * l.length ≤ 1 * 1048576 := Nat.mul_le_mul (Nat.le_refl _) hlen
  unfold joinN
  unfold szL at h
  omega
theorem FnExactVerText : laws_FnExactVerText.Pure2 := by
  intro x hx
  obtain ⟨_, _, _, hx1, hx2⟩ := hx
  unfold maxLen at hx1 hx2
  have hs : ∀ z ∈ x.f3, z.size ≤ 9223372036854775807 := fun z hz => by have := hx2 z hz; omega
  refine Ev.get ?_
  unfold laws_FnExactVerText.f
  refine Ev.bind (szVer _ _ _ _ _ (by omega) hs (by omega) (by omega)) ?_
  have hn := szL_nonneg x.f3
  by_cases h1 : szL x.f3 ≤ 1048576
  · rw [left_pos h1]
    simp only [show ¬ (1048576 : Int) - szL x.f3 < 0 by omega, if_false]
    have hxl : x.f3.length ≤ 1048576 := by have := szT_nonneg x.f3; unfold szL at h1; omega
    have hN := joinN_dot x.f3 h1
    refine Ev.succ ?_
    simp only [laws_FnExactVerText.j0]
    refine Ev.bind (toVer _ _ _ _ (by omega)) (Ev.bind (spec_vertext _ _ _ _ (by omega) hs hN) (Ev.bind (toVer _ _ _ _ (by omega)) (Ev.bind (impl_vertext _ _ _ _ (by omega) hs hN) ?_)))
    simp only [if_true]
    refine Ev.succ ?_
    simp only [laws_FnExactVerText.j1]
    refine Ev.bind (toVer _ _ _ _ (by omega)) (Ev.bind (eqVer _ _ _ _ (by omega)) ?_)
    simp only [if_true]
    exact Ev.some
  · rw [left_not h1]
    exact Ev.some
end Go.Proofs.YtpmooegakomnbabDoor.Pure
