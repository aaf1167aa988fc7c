/- The law FnExactNameOk holds for every text: NameOk of the program answers as the reference's. No condition beyond the row's own. -/
import Derived.Test.YtcendeobgiphaaaPFnExactNameOkx1
import Derived.Test.YtcendeobgiphaaaAux
namespace Go.Proofs.Ytcendeobgiphaaa.Pure
open Go.RowKit Go.Proofs.Ytcendeobgiphaaa.PFnExactNameOk Go.Proofs.YtcendeobgiphaaaW.PrintWords Go.Proofs.YtcendeobgiphaaaW.PrintLast Go.Proofs.Ytcendeobgiphaaa.Aux

def smallB (x : Int) : Bool := decide (97 ≤ x) && decide (x ≤ 122)
def digitB (x : Int) : Bool := decide (48 ≤ x) && decide (x ≤ 57)
def inB (x a b : Int) : Bool := decide (a ≤ x) && decide (x ≤ b)
def nbB (first : Bool) (x : Int) : Bool := smallB x || (!first && (digitB x || decide (x = 45)))
def nameScan : Bool → List Int → Bool
  | _, [] => true
  | f, x :: r => nbB f x && nameScan false r

theorem in_f (a b c : Int) : spec_l1In.f a b c = some (inB a b c) := by
  unfold spec_l1In.f inB
  by_cases h : b ≤ a <;> simp [h]
theorem inRange_f (a b c : Int) : impl_inRange.f a b c = some (inB a b c) := by
  unfold impl_inRange.f inB
  by_cases h : b ≤ a <;> simp [h]
theorem small_spec (s : ByteArray) (i : Int) : spec_l1Small.f (bt s i) = some (smallB (bt s i)) := by
  have := bt_range s i
  unfold spec_l1Small.f
  rw [wrap64_id (by omega) (by omega), in_f]
  rfl
theorem digit_spec (s : ByteArray) (i : Int) : spec_l1Digit.f (bt s i) = some (digitB (bt s i)) := by
  have := bt_range s i
  unfold spec_l1Digit.f
  rw [wrap64_id (by omega) (by omega), in_f]
  rfl
theorem small_impl (x : Int) : impl_isSmall.f x = some (smallB x) := by
  unfold impl_isSmall.f smallB
  by_cases h : 97 ≤ x <;> simp [h]
theorem digit_impl (x : Int) : impl_isFigure.f x = some (digitB x) := by
  unfold impl_isFigure.f digitB
  by_cases h : 48 ≤ x <;> simp [h]

theorem spec_name (s : ByteArray) (hs : s.size ≤ 140737488351232) (d : Nat) : ∀ i : Nat, i + d = s.size →
    Ev (fun k => spec_NameOk.l0 k s (i : Int)) (nameScan (decide (i = 0)) ((bs s).drop i) && inB s.size 1 10) := by
  induction d with
  | zero =>
    intro i hi
    have h1 : ¬ (i : Int) < (s.size : Int) := by omega
    refine Ev.succ ?_
    simp only [spec_NameOk.l0, h1, if_false, bs_end (show s.size ≤ i by omega), nameScan, Bool.true_and, in_f, Option.bind_some]
    exact Ev.some
  | succ d ih =>
    intro i hi
    have h1 : (i : Int) < (s.size : Int) := by omega
    have h2 : (0 : Int) ≤ (i : Int) := by omega
    have h3 : wrap64 ((i : Int) + 1) = ((i + 1 : Nat) : Int) := by rw [wrap64_id (by omega) (by omega)]; rfl
    have ih' := ih (i + 1) (by omega)
    simp only [show decide (i + 1 = 0) = false by simp] at ih'
    refine Ev.succ ?_
    rw [bs_drop (by omega)]
    simp only [spec_NameOk.l0, h1, h2, h3, if_true, small_spec, digit_spec, Option.bind_some, nameScan, nbB]
    cases hp : smallB (bt s (i : Int)) with
    | true => simpa using ih'
    | false =>
      by_cases h0 : i = 0
      · subst h0; simpa using Ev.some
      · have h0' : ¬ (i : Int) = 0 := by omega
        simp only [h0, h0', if_false, decide_false]
        cases hq : digitB (bt s (i : Int)) with
        | true => simpa using ih'
        | false =>
          by_cases hr : bt s (i : Int) = 45
          · simpa [hr] using ih'
          · simpa [hr] using Ev.some

theorem impl_name (s : ByteArray) (hs : s.size ≤ 140737488351232) (d : Nat) : ∀ i : Nat, i + d = s.size →
    Ev (fun k => impl_NameOk.l0 k s (i : Int)) (nameScan (decide (i = 0)) ((bs s).drop i) && inB s.size 1 10) := by
  induction d with
  | zero =>
    intro i hi
    have h1 : ¬ (i : Int) < (s.size : Int) := by omega
    refine Ev.succ ?_
    simp only [impl_NameOk.l0, h1, if_false, bs_end (show s.size ≤ i by omega), nameScan, Bool.true_and, inRange_f, Option.bind_some]
    exact Ev.some
  | succ d ih =>
    intro i hi
    have h1 : (i : Int) < (s.size : Int) := by omega
    have h2 : (0 : Int) ≤ (i : Int) := by omega
    have h3 : wrap64 ((i : Int) + 1) = ((i + 1 : Nat) : Int) := by rw [wrap64_id (by omega) (by omega)]; rfl
    have ih' := ih (i + 1) (by omega)
    simp only [show decide (i + 1 = 0) = false by simp] at ih'
    refine Ev.succ ?_
    rw [bs_drop (by omega)]
    simp only [impl_NameOk.l0, h1, h2, h3, if_true, small_impl, digit_impl, Option.bind_some, nameScan, nbB]
    cases hp : smallB (bt s (i : Int)) with
    | true => simpa using ih'
    | false =>
      by_cases h0 : i = 0
      · subst h0; simpa using Ev.some
      · have h0' : ¬ (i : Int) = 0 := by omega
        simp only [h0, h0', if_false, decide_false]
        cases hq : digitB (bt s (i : Int)) with
        | true => simpa using ih'
        | false =>
          by_cases hr : bt s (i : Int) = 45
          · simpa [hr] using ih'
          · simpa [hr] using Ev.some

theorem FnExactNameOk : laws_FnExactNameOk.Pure := by
  intro s hs
  refine Ev.get ?_
  have h1 := spec_name s hs s.size 0 (by omega)
  have h2 := impl_name s hs s.size 0 (by omega)
  unfold laws_FnExactNameOk.f
  refine Ev.cond (fun _ => Ev.some) fun _ => ?_
  refine Ev.bind h1 (Ev.bind h2 ?_)
  simpa using Ev.some

end Go.Proofs.Ytcendeobgiphaaa.Pure
