/- The law FnExactCmpOk's one statement: CmpOk of the program answers as the reference's, and leaves its arguments as they were. -/
import Derived.Test.YtfbbagddhfeefaaSGBFnExactCmpOk
import Derived.Test.YtfbbagddhfeefaaGBPureHCmp
import Derived.Test.YtfbbagddhfeefaaGBPureCmpOk
import Derived.Test.YtfbbagddhfeefaaPGBx8
set_option linter.unusedVariables false
set_option linter.unusedSimpArgs false
namespace Go.Proofs.Ytfbbagddhfeefaa.Pure
open Go.RowKit Go.Proofs.Ytfbbagddhfeefaa.PGB Go.Proofs.YtfbbagddhfeefaaW.PrintWords Go.Proofs.YtfbbagddhfeefaaW.PrintLast Go.Proofs.Ytfbbagddhfeefaa.Aux

theorem FnExactCmpOk : laws_FnExactCmpOk.Pure2 := by
  intro x y hx hy
  have hx' := hx
  have hy' := hy
  obtain ⟨_, _, _, _, hx1, hx2⟩ := hx'
  obtain ⟨_, _, _, hy1, hy2⟩ := hy'
  unfold maxLen at hx1 hx2 hy1 hy2
  have hs : ∀ z ∈ x.f1.f3, z.size ≤ 9223372036854775807 := fun z hz => by have := hx2 z hz; omega
  have hs' : ∀ z ∈ y.f3, z.size ≤ 9223372036854775807 := fun z hz => by have := hy2 z hz; omega
  refine Ev.get ?_
  unfold laws_FnExactCmpOk.f
  refine Ev.bind (szCmp x _ hx (by omega) (by omega)) ?_
  have hn := needCmp_nonneg x
  have hn' := needVer_nonneg y
  by_cases h1 : needCmp x ≤ 1048576
  · rw [left_pos h1]
    simp only [show ¬ (1048576 : Int) - needCmp x < 0 by omega, if_false]
    refine Ev.succ ?_
    simp only [laws_FnExactCmpOk.j0]
    refine Ev.bind (szVer y _ hy (by omega) (by omega)) ?_
    by_cases h2 : needVer y ≤ 1048576 - needCmp x
    · rw [left_pos h2]
      simp only [show ¬ (1048576 : Int) - needCmp x - needVer y < 0 by omega, if_false]
      have h2' : needVer y ≤ 1048576 := by omega
      refine Ev.succ ?_
      simp only [laws_FnExactCmpOk.j1]
      refine Ev.bind (toCmp x h1) (Ev.bind (toVer y h2') (Ev.bind (spec_cmpOk _ _ _ _ _ _ _ _ _ (by show x.f1.f3.length ≤ _; omega) (by show y.f3.length ≤ _; omega) hs hs') (Ev.bind (toCmp x h1) (Ev.bind (toVer y h2') (Ev.bind (impl_cmpOk _ _ _ _ _ _ _ _ _ (by show x.f1.f3.length ≤ _; omega) (by show y.f3.length ≤ _; omega) hs hs') ?_)))))
      simp only [bne_self_eq_false, Bool.false_eq_true, if_false]
      refine Ev.succ ?_
      simp only [laws_FnExactCmpOk.j2]
      refine Ev.bind (toCmp x h1) (Ev.bind (eqCmp _ (fit_convCmp x h1)) ?_)
      simp only [if_true]
      refine Ev.succ ?_
      simp only [laws_FnExactCmpOk.j3]
      refine Ev.bind (toVer y h2') (Ev.bind (eqVer _ (fit_convVer y h2')) ?_)
      simp only [if_true]
      exact Ev.some
    · rw [left_not h2]
      exact Ev.some
  · rw [left_not h1]
    exact Ev.some

end Go.Proofs.Ytfbbagddhfeefaa.Pure
