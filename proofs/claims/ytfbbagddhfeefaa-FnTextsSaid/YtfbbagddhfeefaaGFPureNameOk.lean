/- What NameOk comes to, of the reference and of the program. -/
import Derived.Test.YtfbbagddhfeefaaGFPureChars
import Derived.Test.YtfbbagddhfeefaaPGFx2
set_option linter.unusedVariables false
set_option linter.unusedSimpArgs false
namespace Go.Proofs.Ytfbbagddhfeefaa.Pure
open Go.RowKit Go.Proofs.Ytfbbagddhfeefaa.PGF Go.Proofs.YtfbbagddhfeefaaW.PrintWords Go.Proofs.YtfbbagddhfeefaaW.PrintLast Go.Proofs.Ytfbbagddhfeefaa.Aux

def nbB (first : Bool) (x : Int) : Bool := smallB x || (!first && (digitB x || decide (x = 45)))
def nameScan : Bool → List Int → Bool
  | _, [] => true
  | f, x :: r => nbB f x && nameScan false r

theorem spec_name (s : ByteArray) (hs : s.size ≤ 140737488351232) (d : Nat) : ∀ i : Nat, i + d = s.size →
    Ev (fun k => spec_NameOk.l0 k s (i : Int)) (nameScan (decide (i = 0)) ((bs s).drop i) && inB s.size 1 10) := by
  induction d with
  | zero =>
    intro i hi
    have h1 : ¬ (i : Int) < (s.size : Int) := by omega
    refine Ev.succ ?_
    simp only [spec_NameOk.l0, h1, if_false, bs_end (show s.size ≤ i by omega), nameScan, Bool.true_and, in_f, Option.bind_some]
    exact Ev.some
  | succ d ih =>
    intro i hi
    have h1 : (i : Int) < (s.size : Int) := by omega
    have h2 : (0 : Int) ≤ (i : Int) := by omega
    have hr := bt_range s i
    have h3 : wrap64 ((i : Int) + 1) = ((i + 1 : Nat) : Int) := by rw [wrap64_id (by omega) (by omega)]; rfl
    have ih' := ih (i + 1) (by omega)
    simp only [show decide (i + 1 = 0) = false by simp] at ih'
    refine Ev.succ ?_
    rw [bs_drop (by omega)]
    simp only [spec_NameOk.l0, h1, h2, h3, if_true]
    first | (refine Ev.succ ?_; simp only [spec_NameOk.j1, h1, h2, h3, if_true]) | skip
    simp only [small_spec hr, digit_spec hr, Option.bind_some, nameScan, nbB]
    cases hp : smallB (bt s (i : Int)) with
    | true => simpa using ih'
    | false =>
      by_cases h0 : i = 0
      · subst h0; simpa using Ev.some
      · have h0' : ¬ (i : Int) = 0 := by omega
        simp only [h0, h0', if_false, decide_false]
        cases hq : digitB (bt s (i : Int)) with
        | true => simpa using ih'
        | false =>
          by_cases hr : bt s (i : Int) = 45
          · simpa [hr] using ih'
          · simpa [hr] using Ev.some

theorem impl_name (s : ByteArray) (hs : s.size ≤ 140737488351232) (d : Nat) : ∀ i : Nat, i + d = s.size →
    Ev (fun k => impl_NameOk.l0 k s (i : Int)) (nameScan (decide (i = 0)) ((bs s).drop i) && inB s.size 1 10) := by
  induction d with
  | zero =>
    intro i hi
    have h1 : ¬ (i : Int) < (s.size : Int) := by omega
    refine Ev.succ ?_
    simp only [impl_NameOk.l0, h1, if_false, bs_end (show s.size ≤ i by omega), nameScan, Bool.true_and, inRange_f, Option.bind_some]
    exact Ev.some
  | succ d ih =>
    intro i hi
    have h1 : (i : Int) < (s.size : Int) := by omega
    have h2 : (0 : Int) ≤ (i : Int) := by omega
    have hr := bt_range s i
    have h3 : wrap64 ((i : Int) + 1) = ((i + 1 : Nat) : Int) := by rw [wrap64_id (by omega) (by omega)]; rfl
    have ih' := ih (i + 1) (by omega)
    simp only [show decide (i + 1 = 0) = false by simp] at ih'
    refine Ev.succ ?_
    rw [bs_drop (by omega)]
    simp only [impl_NameOk.l0, h1, h2, h3, if_true]
    first | (refine Ev.succ ?_; simp only [impl_NameOk.j1, h1, h2, h3, if_true]) | skip
    simp only [small_impl, digit_impl, Option.bind_some, nameScan, nbB]
    cases hp : smallB (bt s (i : Int)) with
    | true => simpa using ih'
    | false =>
      by_cases h0 : i = 0
      · subst h0; simpa using Ev.some
      · have h0' : ¬ (i : Int) = 0 := by omega
        simp only [h0, h0', if_false, decide_false]
        cases hq : digitB (bt s (i : Int)) with
        | true => simpa using ih'
        | false =>
          by_cases hr : bt s (i : Int) = 45
          · simpa [hr] using ih'
          · simpa [hr] using Ev.some

end Go.Proofs.Ytfbbagddhfeefaa.Pure
