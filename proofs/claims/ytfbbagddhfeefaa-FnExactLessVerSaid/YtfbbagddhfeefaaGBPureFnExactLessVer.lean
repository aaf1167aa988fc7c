/- The law FnExactLessVer's one statement: LessVer of the program answers as the reference's, and leaves its arguments as they were. -/
import Derived.Test.YtfbbagddhfeefaaSGBFnExactLessVer
import Derived.Test.YtfbbagddhfeefaaGBPureVer
import Derived.Test.YtfbbagddhfeefaaGBPureCmp
import Derived.Test.YtfbbagddhfeefaaPGBx5
import Derived.Test.YtfbbagddhfeefaaPGBx6
set_option linter.unusedVariables false
set_option linter.unusedSimpArgs false
namespace Go.Proofs.Ytfbbagddhfeefaa.Pure
open Go.RowKit Go.Proofs.Ytfbbagddhfeefaa.PGB Go.Proofs.YtfbbagddhfeefaaW.PrintWords Go.Proofs.YtfbbagddhfeefaaW.PrintLast Go.Proofs.Ytfbbagddhfeefaa.Aux

theorem impl_less (a b c : Int) (l : List ByteArray) (a' b' c' : Int) (l' : List ByteArray) (hl : l.length ≤ 9223372036854775807) (hs : ∀ x ∈ l, x.size ≤ 9223372036854775807) (hs' : ∀ x ∈ l', x.size ≤ 9223372036854775807) :
    Ev (fun k => impl_LessVer.f k a b c l a' b' c' l') (lessV a b c l a' b' c' l') := by
  unfold impl_LessVer.f
  refine Ev.bind (compareVer _ _ _ _ _ _ _ _ hl hs hs') ?_
  rw [cmpV_neg]
  exact Ev.some

theorem FnExactLessVer : laws_FnExactLessVer.Pure2 := by
  intro x y hx hy
  obtain ⟨_, _, _, hx1, hx2⟩ := hx
  obtain ⟨_, _, _, hy1, hy2⟩ := hy
  unfold maxLen at hx1 hx2 hy1 hy2
  have hs : ∀ z ∈ x.f3, z.size ≤ 9223372036854775807 := fun z hz => by have := hx2 z hz; omega
  have hs' : ∀ z ∈ y.f3, z.size ≤ 9223372036854775807 := fun z hz => by have := hy2 z hz; omega
  refine Ev.get ?_
  unfold laws_FnExactLessVer.f
  refine Ev.bind (szVer _ _ _ _ _ (by omega) hs (by omega) (by omega)) ?_
  have hn := szL_nonneg x.f3
  have hn' := szL_nonneg y.f3
  by_cases h1 : szL x.f3 ≤ 1048576
  · rw [left_pos h1]
    simp only [show ¬ (1048576 : Int) - szL x.f3 < 0 by omega, if_false]
    refine Ev.succ ?_
    simp only [laws_FnExactLessVer.j0]
    refine Ev.bind (szVer _ _ _ _ _ (by omega) hs' (by omega) (by omega)) ?_
    by_cases h2 : szL y.f3 ≤ 1048576 - szL x.f3
    · rw [left_pos h2]
      simp only [show ¬ (1048576 : Int) - szL x.f3 - szL y.f3 < 0 by omega, if_false]
      have hxl : x.f3.length ≤ 1048576 := by have := szT_nonneg x.f3; unfold szL at h1; omega
      have hyl : y.f3.length ≤ 1048576 := by have := szT_nonneg y.f3; unfold szL at h2 hn; omega
      refine Ev.succ ?_
      simp only [laws_FnExactLessVer.j1]
      refine Ev.bind (toVer _ _ _ _ (by omega)) (Ev.bind (toVer _ _ _ _ (by omega)) (Ev.bind (spec_less _ _ _ _ _ _ _ _ (by omega) hs hs') (Ev.bind (toVer _ _ _ _ (by omega)) (Ev.bind (toVer _ _ _ _ (by omega)) (Ev.bind (impl_less _ _ _ _ _ _ _ _ (by omega) hs hs') ?_)))))
      simp only [bne_self_eq_false, Bool.false_eq_true, if_false]
      refine Ev.succ ?_
      simp only [laws_FnExactLessVer.j2]
      refine Ev.bind (toVer _ _ _ _ (by omega)) (Ev.bind (eqVer _ _ _ _ (by omega)) ?_)
      simp only [if_true]
      refine Ev.succ ?_
      simp only [laws_FnExactLessVer.j3]
      refine Ev.bind (toVer _ _ _ _ (by omega)) (Ev.bind (eqVer _ _ _ _ (by omega)) ?_)
      simp only [if_true]
      exact Ev.some
    · rw [left_not h2]
      exact Ev.some
  · rw [left_not h1]
    exact Ev.some

end Go.Proofs.Ytfbbagddhfeefaa.Pure
