/- The law FnExactInRange's one statement: InRange of the program answers as the reference's, and leaves its arguments as they were. -/
import Derived.Test.YtfbbagddhfeefaaZGCSGCFnExactInRange
import Derived.Test.YtfbbagddhfeefaaZGCGCPureHCmpSS
import Derived.Test.YtfbbagddhfeefaaZGCGCPureInRange
import Derived.Test.YtfbbagddhfeefaaZGCPGCx13
set_option linter.unusedVariables false
set_option linter.unusedSimpArgs false
namespace Go.Proofs.Ytfbbagddhfeefaa.Pure
open Go.RowKit Go.Proofs.Ytfbbagddhfeefaa.PGC Go.Proofs.YtfbbagddhfeefaaW.PrintWords Go.Proofs.YtfbbagddhfeefaaW.PrintLast Go.Proofs.Ytfbbagddhfeefaa.Aux

theorem FnExactInRange : laws_FnExactInRange.Pure2 := by
  intro r y hr hy
  have hy' := hy
  obtain ⟨_, _, _, hy1, hy2⟩ := hy'
  unfold maxLen at hy1 hy2
  have hs' : ∀ z ∈ y.f3, z.size ≤ 9223372036854775807 := fun z hz => by have := hy2 z hz; omega
  refine Ev.get ?_
  unfold laws_FnExactInRange.f
  refine Ev.bind (szCmpSS r _ hr (by omega) (by omega)) ?_
  have hn := needCmpSS_nonneg r
  have hn' := needVer_nonneg y
  by_cases h1 : (r.length : Int) + needCmpSS r ≤ 1048576
  · rw [left_pos h1]
    simp only [show ¬ (1048576 : Int) - ((r.length : Int) + needCmpSS r) < 0 by omega, if_false]
    refine Ev.succ ?_
    simp only [laws_FnExactInRange.j0]
    refine Ev.bind (szVer y _ hy (by omega) (by omega)) ?_
    by_cases h2 : needVer y ≤ 1048576 - ((r.length : Int) + needCmpSS r)
    · rw [left_pos h2]
      simp only [show ¬ (1048576 : Int) - ((r.length : Int) + needCmpSS r) - needVer y < 0 by omega, if_false]
      have h2' : needVer y ≤ 1048576 := by omega
      have hfit := fit_convCmpSS r h1
      have hst : ∀ z ∈ convCmpSS r, z.length ≤ 9223372036854775807 ∧ ∀ x ∈ z, stS x := by
        intro z hz
        refine ⟨(hfit.2 z hz).1, fun x hx => ?_⟩
        obtain ⟨u, hu, rfl⟩ := List.mem_map.1 hz
        obtain ⟨v, hv, rfl⟩ := List.mem_map.1 hx
        obtain ⟨_, _, _, _, o1, o2⟩ := (hr.2 u hu).2 v hv
        unfold maxLen at o1 o2
        exact ⟨by show v.f1.f3.length ≤ _; omega, fun s hs => by have := o2 s hs; omega⟩
      refine Ev.succ ?_
      simp only [laws_FnExactInRange.j1]
      refine Ev.bind (toCmpSS r h1) (Ev.bind (toVer y h2') (Ev.bind (spec_inRange _ _ _ _ _ (by show y.f3.length ≤ _; omega) hs' hfit.1 hst) (Ev.bind (toCmpSS r h1) (Ev.bind (toVer y h2') (Ev.bind (impl_inRange _ _ _ _ _ (by show y.f3.length ≤ _; omega) hs' hfit.1 hst) ?_)))))
      simp only [bne_self_eq_false, Bool.false_eq_true, if_false]
      refine Ev.succ ?_
      simp only [laws_FnExactInRange.j2]
      refine Ev.bind (toCmpSS r h1) (Ev.bind (eqCmpSS _ hfit) ?_)
      simp only [if_true]
      refine Ev.succ ?_
      simp only [laws_FnExactInRange.j3]
      refine Ev.bind (toVer y h2') (Ev.bind (eqVer _ (fit_convVer y h2')) ?_)
      simp only [if_true]
      exact Ev.some
    · rw [left_not h2]
      exact Ev.some
  · rw [left_not h1]
    exact Ev.some

end Go.Proofs.Ytfbbagddhfeefaa.Pure
