/- What the laws' helpers over slices of strings come to: their sizes, copies and comparisons. -/
import Derived.Test.YtpcdhoeoefoeoaaAux
import Derived.Test.YtpcdhoeoefoeoaaPGBx0
import Derived.Test.YtpcdhoeoefoeoaaPGBx3
set_option linter.unusedVariables false
set_option linter.unusedSimpArgs false
namespace Go.Proofs.Ytpcdhoeoefoeoaa.Pure
open Go.RowKit Go.Proofs.Ytpcdhoeoefoeoaa.PGB Go.Proofs.YtpcdhoeoefoeoaaW.PrintWords Go.Proofs.YtpcdhoeoefoeoaaW.PrintLast Go.Proofs.Ytpcdhoeoefoeoaa.Aux

theorem eqStringS_l (a b : List ByteArray) (hl : a.length ≤ 9223372036854775807) (hab : a.length = b.length) (d : Nat) : ∀ i : Nat, i + d = a.length →
    Ev (fun k => laws_eqStringS.l0 k a b (i : Int)) (decide (a.drop i = b.drop i)) := by
  induction d with
  | zero =>
    intro i hi
    have h1 : ¬ (i : Int) < (a.length : Int) := by omega
    refine Ev.succ ?_
    rw [List.drop_eq_nil_of_le (by omega), List.drop_eq_nil_of_le (by omega)]
    simp only [laws_eqStringS.l0, h1, if_false, decide_true]
    exact Ev.some
  | succ d ih =>
    intro i hi
    have hlt : i < a.length := by omega
    have hlb : i < b.length := by omega
    have h1 : (i : Int) < (a.length : Int) := by omega
    have h1b : (i : Int) < (b.length : Int) := by omega
    have h2 : (0 : Int) ≤ (i : Int) := by omega
    have h3 := next_i hlt hl
    refine Ev.succ ?_
    rw [drop_get hlt, drop_get hlb]
    simp only [laws_eqStringS.l0, h1, h1b, h2, h3, if_true, rdOf_cast _ hlt, rdOf_cast _ hlb, toList_inj]
    by_cases h : a[i] = b[i]
    · simp only [h, if_true, List.cons.injEq, true_and]
      exact ih (i + 1) (by omega)
    · simp only [h, if_false, List.cons.injEq, false_and, decide_false]
      exact Ev.some

theorem eqStringS (a b : List ByteArray) (hl : a.length ≤ 9223372036854775807) : Ev (fun k => laws_eqStringS.f k a b) (decide (a = b)) := by
  unfold laws_eqStringS.f
  by_cases h : (a.length : Int) = (b.length : Int)
  · simp only [h, if_true]
    refine Ev.succ ?_
    simp only [laws_eqStringS.j0]
    exact eqStringS_l a b hl (by omega) a.length 0 (by omega)
  · simp only [h, if_false]
    have : ¬ a = b := fun e => h (by rw [e])
    simp only [this, decide_false]
    exact Ev.some
end Go.Proofs.Ytpcdhoeoefoeoaa.Pure
