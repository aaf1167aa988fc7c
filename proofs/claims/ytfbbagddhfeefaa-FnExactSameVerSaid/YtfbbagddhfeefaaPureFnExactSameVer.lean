/- The law FnExactSameVer's one statement: SameVer of the program answers as the reference's, and leaves its arguments as they were. -/
import Derived.Test.YtfbbagddhfeefaaOG1
import Derived.Test.YtfbbagddhfeefaaPureVer
import Derived.Test.YtfbbagddhfeefaaPureSameVer
import Derived.Test.YtfbbagddhfeefaaPG1x12
set_option linter.unusedVariables false
set_option linter.unusedSimpArgs false
namespace Go.Proofs.Ytfbbagddhfeefaa.Pure
open Go.RowKit Go.Proofs.Ytfbbagddhfeefaa.PG1 Go.Proofs.YtfbbagddhfeefaaW.PrintWords Go.Proofs.YtfbbagddhfeefaaW.PrintLast Go.Proofs.Ytfbbagddhfeefaa.Aux

theorem FnExactSameVer : laws_FnExactSameVer.Pure2 := by
  intro x y hx hy
  obtain ⟨_, _, _, hx1, hx2⟩ := hx
  obtain ⟨_, _, _, hy1, hy2⟩ := hy
  unfold maxLen at hx1 hx2 hy1 hy2
  refine Ev.get ?_
  unfold laws_FnExactSameVer.f
  refine Ev.bind (szVer _ _ _ _ _ (by omega) (fun z hz => by have := hx2 z hz; omega) (by omega) (by omega)) ?_
  have hn := szL_nonneg x.f3
  have hn' := szL_nonneg y.f3
  by_cases h1 : szL x.f3 ≤ 1048576
  · rw [left_pos h1]
    simp only [show ¬ (1048576 : Int) - szL x.f3 < 0 by omega, if_false]
    refine Ev.succ ?_
    simp only [laws_FnExactSameVer.j0]
    refine Ev.bind (szVer _ _ _ _ _ (by omega) (fun z hz => by have := hy2 z hz; omega) (by omega) (by omega)) ?_
    by_cases h2 : szL y.f3 ≤ 1048576 - szL x.f3
    · rw [left_pos h2]
      simp only [show ¬ (1048576 : Int) - szL x.f3 - szL y.f3 < 0 by omega, if_false]
      have hxl : x.f3.length ≤ 1048576 := by have := szT_nonneg x.f3; unfold szL at h1; omega
      have hyl : y.f3.length ≤ 1048576 := by have := szT_nonneg y.f3; unfold szL at h2 hn; omega
      refine Ev.succ ?_
      simp only [laws_FnExactSameVer.j1]
      refine Ev.bind (toVer _ _ _ _ (by omega)) (Ev.bind (toVer _ _ _ _ (by omega)) (Ev.bind (spec_same _ _ _ _ _ _ _ _ (by omega)) (Ev.bind (toVer _ _ _ _ (by omega)) (Ev.bind (toVer _ _ _ _ (by omega)) (Ev.bind (impl_same _ _ _ _ _ _ _ _ (by omega)) ?_)))))
      simp only [bne_self_eq_false, Bool.false_eq_true, if_false]
      refine Ev.succ ?_
      simp only [laws_FnExactSameVer.j2]
      refine Ev.bind (toVer _ _ _ _ (by omega)) (Ev.bind (eqVer _ _ _ _ (by omega)) ?_)
      simp only [if_true]
      refine Ev.succ ?_
      simp only [laws_FnExactSameVer.j3]
      refine Ev.bind (toVer _ _ _ _ (by omega)) (Ev.bind (eqVer _ _ _ _ (by omega)) ?_)
      simp only [if_true]
      exact Ev.some
    · rw [left_not h2]
      exact Ev.some
  · rw [left_not h1]
    exact Ev.some

end Go.Proofs.Ytfbbagddhfeefaa.Pure
