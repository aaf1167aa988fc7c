/- What the functions come to. -/
import Derived.Test.YtpcdhoeoefoeoaaGreatDoorZGAGAPureAllFnExactMayTake
import Derived.Test.YtpcdhoeoefoeoaaGreatDoorZGASGAFnExactMayTake
import Derived.Test.YtpcdhoeoefoeoaaGreatDoorZGAPGAx21
set_option linter.unusedVariables false
set_option linter.unusedSimpArgs false
namespace Go.Proofs.YtpcdhoeoefoeoaaGreatDoor.Pure
open Go.RowKit Go.Proofs.YtpcdhoeoefoeoaaGreatDoor.PGA Go.Proofs.YtpcdhoeoefoeoaaGreatDoorW.PrintWords Go.Proofs.YtpcdhoeoefoeoaaGreatDoorW.PrintLast Go.Proofs.YtpcdhoeoefoeoaaGreatDoor.Aux
theorem impl_mayTake (n s : ByteArray) (a b c : Int) (l : List ByteArray) (hs : s.size ≤ 16777216) (hl : l.length ≤ 9223372036854775807) (hl' : ∀ x ∈ l, x.size ≤ 9223372036854775807) : Ev (fun k => impl_MayTake.f k n s a b c l) ((rangeR s).2 && rangeB a b c l (rangeR s).1) := by
 obtain ⟨h1, h2⟩ := range_small hs
 have hst : ∀ y ∈ (rangeR s).1, y.length ≤ 9223372036854775807 ∧ ∀ x ∈ y, stS x := fun y hy => ⟨by have := (h2 y hy).1; omega, fun x hx => ((h2 y hy).2 x hx).st⟩
 unfold impl_MayTake.f
 refine Ev.bind (impl_range s hs) ?_
 by_cases ho : (rangeR s).2 = true
 ·simp only [ho, if_true, Bool.true_and]
  exact Ev.bind (impl_inRange a b c l _ hl hl' (by omega) hst) Ev.some
 ·simp only [ho, if_false, Bool.false_eq_true]
  exact Ev.cast Ev.some rfl
theorem spec_mayTake (n s : ByteArray) (a b c : Int) (l : List ByteArray) (hs : s.size ≤ 16777216) (hl : l.length ≤ 9223372036854775807) (hl' : ∀ x ∈ l, x.size ≤ 9223372036854775807) : Ev (fun k => spec_MayTake.f k n s a b c l) ((rangeR s).2 && rangeB a b c l (rangeR s).1) := by
 obtain ⟨h1, h2⟩ := range_small hs
 have hst : ∀ y ∈ (rangeR s).1, y.length ≤ 9223372036854775807 ∧ ∀ x ∈ y, stS x := fun y hy => ⟨by have := (h2 y hy).1; omega, fun x hx => ((h2 y hy).2 x hx).st⟩
 unfold spec_MayTake.f
 refine Ev.bind (spec_range s hs) ?_
 by_cases ho : (rangeR s).2 = true
 ·simp only [ho, if_true, Bool.true_and]
  exact Ev.bind (spec_inRange a b c l _ hl hl' (by omega) hst) Ev.some
 ·simp only [ho, if_false, Bool.false_eq_true]
  exact Ev.cast Ev.some rfl
theorem FnExactMayTake : laws_FnExactMayTake.Pure2 := by
 intro x y hx hy
 have hy' := hy
 obtain ⟨_, _, _, hy1, hy2⟩ := hy'
 unfold maxLen at hy1 hy2
 have hs' : ∀ z ∈ y.f3, z.size ≤ 9223372036854775807 := fun z hz => by have := hy2 z hz; omega
 refine Ev.get ?_
 unfold laws_FnExactMayTake.f
 refine Ev.bind (szNeed x _ hx (by omega) (by omega)) ?_
 have hn := needNeed_nonneg x
 have hn' := needVer_nonneg y
 by_cases h1 : needNeed x ≤ 1048576
 ·rw [left_pos h1]
  simp only [show ¬ (1048576 : Int) - needNeed x < 0 by omega, if_false]
  refine Ev.succ ?_
  simp only [laws_FnExactMayTake.j0]
  refine Ev.bind (szVer y _ hy (by omega) (by omega)) ?_
  by_cases h2 : needVer y ≤ 1048576 - needNeed x
  ·rw [left_pos h2]
   simp only [show ¬ (1048576 : Int) - needNeed x - needVer y < 0 by omega, if_false]
   have h2' : needVer y ≤ 1048576 := by omega
   have hz : x.f1.size ≤ 16777216 := by unfold needNeed at h1; omega
   refine Ev.succ ?_
   simp only [laws_FnExactMayTake.j1]
   have hc : laws_toNeed.f x.f0 x.f1 = some ((convNeed x).f0, (convNeed x).f1) := rfl
   simp only [hc, Option.bind_some]
   refine Ev.bind (toVer y h2') (Ev.bind (spec_mayTake _ _ _ _ _ _ hz (by show y.f3.length ≤ _; omega) hs') (Ev.bind (toVer y h2') (Ev.bind (impl_mayTake _ _ _ _ _ _ hz (by show y.f3.length ≤ _; omega) hs') ?_)))
   simp only [bne_self_eq_false, Bool.false_eq_true, if_false]
   refine Ev.succ ?_
   simp only [laws_FnExactMayTake.j2]
   refine Ev.bind (toVer y h2') (Ev.bind (eqVer _ (fit_convVer y h2')) ?_)
   simp only [if_true]
   exact Ev.some
  ·rw [left_not h2]
   exact Ev.some
 ·rw [left_not h1]
  exact Ev.some
end Go.Proofs.YtpcdhoeoefoeoaaGreatDoor.Pure
