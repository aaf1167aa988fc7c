/- Texts of digits alone, of the reference and of the program. -/
import Derived.Test.YtpmooegakomnbabDoorGBPureChars
import Derived.Test.YtpmooegakomnbabDoorPGBx1
import Derived.Test.YtpmooegakomnbabDoorPGBx3
set_option linter.unusedVariables false
set_option linter.unusedSimpArgs false
namespace Go.Proofs.YtpmooegakomnbabDoor.Pure
open Go.RowKit Go.Proofs.YtpmooegakomnbabDoor.PGB Go.Proofs.YtpmooegakomnbabDoorW.PrintWords Go.Proofs.YtpmooegakomnbabDoorW.PrintLast Go.Proofs.YtpmooegakomnbabDoor.Aux

def digitsB (s : ByteArray) : Bool := (bs s).all digitB

theorem spec_digits_l (s : ByteArray) (hs : s.size ≤ 9223372036854775807) (d : Nat) : ∀ i : Nat, i + d = s.size → Ev (fun k => spec_l3Digits.l0 k s (i : Int)) (((bs s).drop i).all digitB) := by
  induction d with
  | zero =>
    intro i hi
    have h1 : ¬ (i : Int) < (s.size : Int) := by omega
    refine Ev.succ ?_
    simp only [spec_l3Digits.l0, h1, if_false, bs_end (show s.size ≤ i by omega), List.all_nil]
    exact Ev.some
  | succ d ih =>
    intro i hi
    have h1 : (i : Int) < (s.size : Int) := by omega
    have h2 : (0 : Int) ≤ (i : Int) := by omega
    have h3 := next_i (show i < s.size by omega) hs
    have ih' := ih (i + 1) (by omega)
    refine Ev.succ ?_
    rw [bs_drop (by omega), List.all_cons]
    simp only [spec_l3Digits.l0, h1, h2, h3, if_true, digit_spec (bt_range s i), Option.bind_some]
    cases hp : digitB (bt s (i : Int)) with
    | true => simpa using ih'
    | false => simpa using Ev.some
theorem spec_digits (s : ByteArray) (hs : s.size ≤ 9223372036854775807) : Ev (fun k => spec_l3Digits.f k s) (digitsB s) := spec_digits_l s hs s.size 0 (by omega)

theorem impl_figures_l (s : ByteArray) (hs : s.size ≤ 9223372036854775807) (d : Nat) : ∀ i : Nat, i + d = s.size → Ev (fun k => impl_isFigures.l0 k s (i : Int)) (((bs s).drop i).all digitB && decide (s.size ≠ 0)) := by
  induction d with
  | zero =>
    intro i hi
    have h1 : ¬ (i : Int) < (s.size : Int) := by omega
    refine Ev.succ ?_
    simp only [impl_isFigures.l0, h1, if_false, bs_end (show s.size ≤ i by omega), List.all_nil, Bool.true_and]
    refine Ev.cast Ev.some ?_
    rw [toList_data]
    by_cases h : s.size = 0
    · have : s.data.toList = [] := by
        apply List.eq_nil_of_length_eq_zero
        simpa using h
      rw [this, h]
      rfl
    · have : s.data.toList ≠ [] := by
        intro e
        apply h
        have := congrArg List.length e
        simpa using this
      simp [h, this]
  | succ d ih =>
    intro i hi
    have h1 : (i : Int) < (s.size : Int) := by omega
    have h2 : (0 : Int) ≤ (i : Int) := by omega
    have h3 := next_i (show i < s.size by omega) hs
    have ih' := ih (i + 1) (by omega)
    refine Ev.succ ?_
    rw [bs_drop (by omega), List.all_cons]
    simp only [impl_isFigures.l0, h1, h2, h3, if_true, digit_impl, Option.bind_some]
    cases hp : digitB (bt s (i : Int)) with
    | true => simpa using ih'
    | false => simpa using Ev.some
theorem impl_figures (s : ByteArray) (hs : s.size ≤ 9223372036854775807) : Ev (fun k => impl_isFigures.f k s) (digitsB s && decide (s.size ≠ 0)) := impl_figures_l s hs s.size 0 (by omega)


end Go.Proofs.YtpmooegakomnbabDoor.Pure
