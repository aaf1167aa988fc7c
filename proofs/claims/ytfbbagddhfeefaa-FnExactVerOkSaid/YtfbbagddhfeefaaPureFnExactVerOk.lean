/- The law FnExactVerOk's one statement: VerOk of the program answers as the reference's, and leaves its argument as it was. -/
import Derived.Test.YtfbbagddhfeefaaSG1FnExactVerOk
import Derived.Test.YtfbbagddhfeefaaPureVer
import Derived.Test.YtfbbagddhfeefaaPureVerOk
set_option linter.unusedVariables false
set_option linter.unusedSimpArgs false
namespace Go.Proofs.Ytfbbagddhfeefaa.Pure
open Go.RowKit Go.Proofs.Ytfbbagddhfeefaa.PG1 Go.Proofs.YtfbbagddhfeefaaW.PrintWords Go.Proofs.YtfbbagddhfeefaaW.PrintLast Go.Proofs.Ytfbbagddhfeefaa.Aux

theorem FnExactVerOk : laws_FnExactVerOk.Pure2 := by
  intro x hx
  obtain ⟨_, _, _, hx1, hx2⟩ := hx
  unfold maxLen at hx1 hx2
  have hs : ∀ z ∈ x.f3, z.size ≤ 9223372036854775807 := fun z hz => by have := hx2 z hz; omega
  refine Ev.get ?_
  unfold laws_FnExactVerOk.f
  refine Ev.bind (szVer _ _ _ _ _ (by omega) hs (by omega) (by omega)) ?_
  have hn := szL_nonneg x.f3
  by_cases h1 : szL x.f3 ≤ 1048576
  · rw [left_pos h1]
    simp only [show ¬ (1048576 : Int) - szL x.f3 < 0 by omega, if_false]
    have hxl : x.f3.length ≤ 1048576 := by have := szT_nonneg x.f3; unfold szL at h1; omega
    refine Ev.succ ?_
    simp only [laws_FnExactVerOk.j0]
    refine Ev.bind (toVer _ _ _ _ (by omega)) (Ev.bind (spec_ver _ _ _ _ (by omega) hs) (Ev.bind (toVer _ _ _ _ (by omega)) (Ev.bind (impl_ver _ _ _ _ (by omega) hs) ?_)))
    simp only [bne_self_eq_false, Bool.false_eq_true, if_false]
    refine Ev.succ ?_
    simp only [laws_FnExactVerOk.j1]
    refine Ev.bind (toVer _ _ _ _ (by omega)) (Ev.bind (eqVer _ _ _ _ (by omega)) ?_)
    simp only [if_true]
    exact Ev.some
  · rw [left_not h1]
    exact Ev.some

end Go.Proofs.Ytfbbagddhfeefaa.Pure
