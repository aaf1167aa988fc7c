/- What PlainOk comes to, of the reference and of the program. -/
import Derived.Test.YtfbbagddhfeefaaGFPureChars
import Derived.Test.YtfbbagddhfeefaaPGFx3
import Derived.Test.YtfbbagddhfeefaaPGFx2
set_option linter.unusedVariables false
set_option linter.unusedSimpArgs false
namespace Go.Proofs.Ytfbbagddhfeefaa.Pure
open Go.RowKit Go.Proofs.Ytfbbagddhfeefaa.PGF Go.Proofs.YtfbbagddhfeefaaW.PrintWords Go.Proofs.YtfbbagddhfeefaaW.PrintLast Go.Proofs.Ytfbbagddhfeefaa.Aux

def plainB (x : Int) : Bool := decide (32 ≤ x) && decide (x ≤ 126)

theorem in_plain (s : ByteArray) (i : Int) : spec_l1In.f (wrap64 (bt s i)) 32 126 = some (plainB (bt s i)) := by
  have := bt_range s i
  rw [wrap64_id (by omega) (by omega)]
  unfold spec_l1In.f plainB
  by_cases h : 32 ≤ bt s i <;> simp [h]

theorem is_plain (c : Int) : impl_isPlain.f c = some (plainB c) := by
  unfold impl_isPlain.f plainB
  by_cases h : 32 ≤ c <;> simp [h]

theorem spec_plain (s : ByteArray) (m : Int) (hs : s.size ≤ 140737488351232) (d : Nat) : ∀ i : Nat, i + d = s.size →
    Ev (fun k => spec_PlainOk.l0 k s m (i : Int)) (((bs s).drop i).all plainB && decide ((s.size : Int) ≤ m)) := by
  induction d with
  | zero =>
    intro i hi
    have h1 : ¬ (i : Int) < (s.size : Int) := by omega
    refine Ev.succ ?_
    simp only [spec_PlainOk.l0, h1, if_false, bs_end (show s.size ≤ i by omega), List.all_nil, Bool.true_and]
    exact Ev.some
  | succ d ih =>
    intro i hi
    have h1 : (i : Int) < (s.size : Int) := by omega
    have h2 : (0 : Int) ≤ (i : Int) := by omega
    have h3 : wrap64 ((i : Int) + 1) = ((i + 1 : Nat) : Int) := by rw [wrap64_id (by omega) (by omega)]; rfl
    have ih' := ih (i + 1) (by omega)
    refine Ev.succ ?_
    rw [bs_drop (by omega), List.all_cons]
    simp only [spec_PlainOk.l0, h1, h2, h3, if_true, in_plain, Option.bind_some]
    cases hp : plainB (bt s (i : Int)) with
    | true => simpa using ih'
    | false => simpa using Ev.some

theorem impl_plain (s : ByteArray) (m : Int) (hs : s.size ≤ 140737488351232) (d : Nat) : ∀ i : Nat, i + d = s.size →
    Ev (fun k => impl_PlainOk.l0 k s m (i : Int)) (((bs s).drop i).all plainB && decide ((s.size : Int) ≤ m)) := by
  induction d with
  | zero =>
    intro i hi
    have h1 : ¬ (i : Int) < (s.size : Int) := by omega
    refine Ev.succ ?_
    simp only [impl_PlainOk.l0, h1, if_false, bs_end (show s.size ≤ i by omega), List.all_nil, Bool.true_and]
    exact Ev.some
  | succ d ih =>
    intro i hi
    have h1 : (i : Int) < (s.size : Int) := by omega
    have h2 : (0 : Int) ≤ (i : Int) := by omega
    have h3 : wrap64 ((i : Int) + 1) = ((i + 1 : Nat) : Int) := by rw [wrap64_id (by omega) (by omega)]; rfl
    have ih' := ih (i + 1) (by omega)
    refine Ev.succ ?_
    rw [bs_drop (by omega), List.all_cons]
    simp only [impl_PlainOk.l0, h1, h2, h3, if_true, is_plain, Option.bind_some]
    cases hp : plainB (bt s (i : Int)) with
    | true => simpa using ih'
    | false => simpa using Ev.some

end Go.Proofs.Ytfbbagddhfeefaa.Pure
