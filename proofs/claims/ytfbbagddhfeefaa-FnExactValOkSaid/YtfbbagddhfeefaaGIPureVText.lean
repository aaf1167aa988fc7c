/- Texts of values, of the reference and of the program; ascending keys. -/
import Derived.Test.YtfbbagddhfeefaaGIPureChars
import Derived.Test.YtfbbagddhfeefaaPGIx3
import Derived.Test.YtfbbagddhfeefaaPGIx5
set_option linter.unusedVariables false
set_option linter.unusedSimpArgs false
namespace Go.Proofs.Ytfbbagddhfeefaa.Pure
open Go.RowKit Go.Proofs.Ytfbbagddhfeefaa.PGI Go.Proofs.YtfbbagddhfeefaaW.PrintWords Go.Proofs.YtfbbagddhfeefaaW.PrintLast Go.Proofs.Ytfbbagddhfeefaa.Aux

def vB (x : Int) : Bool := inB x 32 126 || (decide (x = 9) || decide (x = 10))
def textB (s : ByteArray) : Bool := (bs s).all vB && decide ((s.size : Int) ≤ 60)
theorem spec_text_l (s : ByteArray) (hs : s.size ≤ 9223372036854775807) (d : Nat) : ∀ i : Nat, i + d = s.size → Ev (fun k => spec_l2Text.l0 k s (i : Int)) (((bs s).drop i).all vB && decide ((s.size : Int) ≤ 60)) := by
  induction d with
  | zero =>
    intro i hi
    have h1 : ¬ (i : Int) < (s.size : Int) := by omega
    refine Ev.succ ?_
    simp only [spec_l2Text.l0, h1, if_false, bs_end (show s.size ≤ i by omega), List.all_nil, Bool.true_and]
    exact Ev.some
  | succ d ih =>
    intro i hi
    have h1 : (i : Int) < (s.size : Int) := by omega
    have h2 : (0 : Int) ≤ (i : Int) := by omega
    have h3 := next_i (show i < s.size by omega) hs
    have ih' := ih (i + 1) (by omega)
    have hr := bt_range s i
    refine Ev.succ ?_
    rw [bs_drop (by omega), List.all_cons]
    simp only [spec_l2Text.l0, h1, h2, h3, if_true, wrap64_id (show -9223372036854775808 ≤ bt s (i : Int) by omega) (show bt s (i : Int) ≤ 9223372036854775807 by omega), in_f, Option.bind_some, vB]
    cases hq : inB (bt s (i : Int)) 32 126 with
    | true => simpa using ih'
    | false =>
      by_cases h9 : bt s (i : Int) = 9
      · simpa [h9] using ih'
      · by_cases h10 : bt s (i : Int) = 10
        · simpa [h10] using ih'
        · simpa [h9, h10] using Ev.some
theorem spec_text (s : ByteArray) (hs : s.size ≤ 9223372036854775807) : Ev (fun k => spec_l2Text.f k s) (textB s) := spec_text_l s hs s.size 0 (by omega)
theorem impl_vbyte (x : Int) : impl_isVByte.f x = some (vB x) := by
  unfold impl_isVByte.f impl_isPlain.f vB inB
  by_cases h : 32 ≤ x
  · by_cases h' : x ≤ 126
    · simp [h, h']
    · have h9 : ¬ x = 9 := by omega
      have h10 : ¬ x = 10 := by omega
      simp [h, h', h9, h10]
  · by_cases h10 : x = 10
    · simp [h10]
    · by_cases h9 : x = 9
      · simp [h9]
      · simp [h, h9, h10]
theorem impl_text_l (s : ByteArray) (hs : s.size ≤ 9223372036854775807) (d : Nat) : ∀ i : Nat, i + d = s.size → Ev (fun k => impl_vTextOk.l0 k s (i : Int)) (((bs s).drop i).all vB && decide ((s.size : Int) ≤ 60)) := by
  induction d with
  | zero =>
    intro i hi
    have h1 : ¬ (i : Int) < (s.size : Int) := by omega
    refine Ev.succ ?_
    simp only [impl_vTextOk.l0, h1, if_false, bs_end (show s.size ≤ i by omega), List.all_nil, Bool.true_and]
    exact Ev.some
  | succ d ih =>
    intro i hi
    have h1 : (i : Int) < (s.size : Int) := by omega
    have h2 : (0 : Int) ≤ (i : Int) := by omega
    have h3 := next_i (show i < s.size by omega) hs
    have ih' := ih (i + 1) (by omega)
    refine Ev.succ ?_
    rw [bs_drop (by omega), List.all_cons]
    simp only [impl_vTextOk.l0, h1, h2, h3, if_true, impl_vbyte, Option.bind_some]
    cases hq : vB (bt s (i : Int)) with
    | true => simpa using ih'
    | false => simpa using Ev.some
theorem impl_text (s : ByteArray) (hs : s.size ≤ 9223372036854775807) : Ev (fun k => impl_vTextOk.f k s) (textB s) := impl_text_l s hs s.size 0 (by omega)
end Go.Proofs.Ytfbbagddhfeefaa.Pure
