/- The law FnExactJoin's one statement: Join of the program answers as the reference's, and leaves its argument as it was. -/
import Derived.Test.YtpmooegakomnbaaSGAFnExactJoin
import Derived.Test.YtpmooegakomnbaaGAPureStr
import Derived.Test.YtpmooegakomnbaaGAPureJoin
import Derived.Test.YtpmooegakomnbaaPGAx1
set_option linter.unusedVariables false
set_option linter.unusedSimpArgs false
namespace Go.Proofs.Ytpmooegakomnbaa.Pure
open Go.RowKit Go.Proofs.Ytpmooegakomnbaa.PGA Go.Proofs.YtpmooegakomnbaaW.PrintWords Go.Proofs.YtpmooegakomnbaaW.PrintLast Go.Proofs.Ytpmooegakomnbaa.Aux

theorem FnExactJoin : laws_FnExactJoin.Pure2 := by
  intro l s hl _
  obtain ⟨hl1, hl2⟩ := hl
  unfold maxLen at hl1 hl2
  have hs : ∀ z ∈ l, z.size ≤ 9223372036854775807 := fun z hz => by have := hl2 z hz; omega
  refine Ev.get ?_
  unfold laws_FnExactJoin.f
  refine Ev.cond (fun _ => Ev.some) fun h0 => ?_
  refine Ev.succ ?_
  simp only [laws_FnExactJoin.j0]
  refine Ev.bind (szStringS l _ (by omega) hs (by omega) (by omega)) ?_
  have hn := szL_nonneg l
  by_cases h1 : szL l ≤ 1048576
  · rw [left_pos h1]
    simp only [show ¬ (1048576 : Int) - szL l < 0 by omega, if_false]
    have hT := szT_nonneg l
    have hlen : l.length ≤ 1048576 := by unfold szL at h1; omega
    have hN : joinN l s ≤ 140737488355328 := by
      have h2 := lens_szT l
      have h3 : s.size * l.length ≤ 1048576 * 1048576 := Nat.mul_le_mul (by omega) hlen
      unfold joinN
      unfold szL at h1
      omega
    refine Ev.succ ?_
    simp only [laws_FnExactJoin.j1]
    refine Ev.bind (toStringS l (by omega)) (Ev.bind (spec_join l s hN (by omega)) (Ev.bind (toStringS l (by omega)) ?_))
    have hi : impl_Join.f l s = some (joinB l s) := by
      unfold impl_Join.f
      rw [strings_join l s hN (by omega)]
      rfl
    simp only [hi, Option.bind_some, if_true]
    refine Ev.succ ?_
    simp only [laws_FnExactJoin.j2]
    refine Ev.bind (toStringS l (by omega)) (Ev.bind (eqStringS _ _ (by omega)) ?_)
    simp only [decide_true, if_true]
    exact Ev.some
  · rw [left_not h1]
    exact Ev.some
end Go.Proofs.Ytpmooegakomnbaa.Pure
