/- What VerText comes to, of the reference and of the program. -/
import Derived.Test.YtpmooegakomnbabDoorGBPureVerOk
import Derived.Test.YtpmooegakomnbabDoorGBPureNum
import Derived.Test.YtpmooegakomnbabDoorGBPureJoin
import Derived.Test.YtpmooegakomnbabDoorPGBx2
import Derived.Test.YtpmooegakomnbabDoorPGBx4
set_option linter.unusedVariables false
set_option linter.unusedSimpArgs false
namespace Go.Proofs.YtpmooegakomnbabDoor.Pure
open Go.RowKit Go.Proofs.YtpmooegakomnbabDoor.PGB Go.Proofs.YtpmooegakomnbabDoorW.PrintWords Go.Proofs.YtpmooegakomnbabDoorW.PrintLast Go.Proofs.YtpmooegakomnbabDoor.Aux

theorem decDigits_length : ∀ (m u : Nat), u < 10 ^ (m + 1) → (Lib.decDigits u).length ≤ m + 1
  | 0, u, h => by
    rw [Lib.decDigits, dif_pos (by simpa using h)]
    simp
  | m + 1, u, h => by
    by_cases h9 : u < 10
    · rw [Lib.decDigits, dif_pos h9]
      simp
    · have := decDigits_length m (u / 10) (by rw [Nat.pow_succ] at h; omega)
      rw [Lib.decDigits, dif_neg h9, List.length_append]
      simp only [List.length_cons, List.length_nil]
      omega
theorem numB_size {x : Int} (h : x ≤ 9223372036854775807) : (numB x).size ≤ 19 := by
  unfold numB
  rw [ofL_size]
  exact decDigits_length 18 _ (by omega)
def dot : ByteArray := ⟨#[46]⟩
def dash : ByteArray := ⟨#[45]⟩
theorem dot_size : (⟨#[46]⟩ : ByteArray).size = 1 := rfl
theorem dash_size : (⟨#[45]⟩ : ByteArray).size = 1 := rfl
theorem app_assoc (a b c : ByteArray) : a ++ b ++ c = a ++ (b ++ c) := by
  rw [← ofL_data (a ++ b ++ c), ← ofL_data (a ++ (b ++ c))]
  simp
def verCore (a b c : Int) : ByteArray := numB a ++ dot ++ numB b ++ dot ++ numB c
def verT (a b c : Int) (l : List ByteArray) : ByteArray := if verB a b c l = true then (if (l.length : Int) > 0 then verCore a b c ++ (dash ++ joinB l dot) else verCore a b c) else ⟨#[]⟩
theorem ver_parts {a b c : Int} {l : List ByteArray} (h : verB a b c l = true) : 0 ≤ a ∧ a ≤ 9999 ∧ 0 ≤ b ∧ b ≤ 9999 ∧ 0 ≤ c ∧ c ≤ 9999 ∧ l.length ≤ 3 := by
  unfold verB verEnd inB at h
  simp at h
  omega
theorem spec_vertext (a b c : Int) (l : List ByteArray) (hl : l.length ≤ 9223372036854775807) (hs : ∀ x ∈ l, x.size ≤ 9223372036854775807) (hN : joinN l dot ≤ 2199023255552) : Ev (fun k => spec_VerText.f k a b c l) (verT a b c l) := by
  unfold spec_VerText.f verT
  refine Ev.bind (spec_ver a b c l hl hs) ?_
  cases hv : verB a b c l with
  | false => simpa using Ev.some
  | true =>
    obtain ⟨a0, a1, b0, b1, c0, c1, l3⟩ := ver_parts hv
    have na := numB_size (x := a) (by omega)
    have nb := numB_size (x := b) (by omega)
    have nc := numB_size (x := c) (by omega)
    have hj := joinB_size l dot
    simp only [if_true]
    refine Ev.succ ?_
    simp only [spec_VerText.j0]
    refine Ev.bind (spec_num a (by omega)) ?_
    refine Ev.yes (by omega) ?_
    refine Ev.bind (spec_num b (by omega)) ?_
    refine Ev.yes (by simp only [ByteArray.size_append, dot_size]; omega) ?_
    refine Ev.yes (by simp only [ByteArray.size_append, dot_size]; omega) ?_
    refine Ev.bind (spec_num c (by omega)) ?_
    refine Ev.yes (by simp only [ByteArray.size_append, dot_size]; omega) ?_
    by_cases hp : (l.length : Int) > 0
    · simp only [hp, if_true]
      refine Ev.yes (by simp only [ByteArray.size_append, dot_size]; omega) ?_
      refine Ev.bind (spec_join l dot (by omega) (by omega)) ?_
      refine Ev.yes (by simp only [ByteArray.size_append, dot_size, dash_size]; omega) ?_
      exact Ev.cast Ev.some (by rw [app_assoc]; rfl)
    · simp only [hp, if_false]
      exact Ev.some
theorem impl_vertext (a b c : Int) (l : List ByteArray) (hl : l.length ≤ 9223372036854775807) (hs : ∀ x ∈ l, x.size ≤ 9223372036854775807) (hN : joinN l dot ≤ 2199023255552) : Ev (fun k => impl_VerText.f k a b c l) (verT a b c l) := by
  unfold impl_VerText.f verT
  refine Ev.bind (impl_ver a b c l hl hs) ?_
  cases hv : verB a b c l with
  | false => simpa using Ev.some
  | true =>
    obtain ⟨a0, a1, b0, b1, c0, c1, l3⟩ := ver_parts hv
    have na := numB_size (x := a) (by omega)
    have nb := numB_size (x := b) (by omega)
    have nc := numB_size (x := c) (by omega)
    have hj := joinB_size l dot
    simp only [if_true]
    refine Ev.succ ?_
    simp only [impl_VerText.j0, impl_num a (show a ≤ 9223372036854775807 by omega), impl_num b (show b ≤ 9223372036854775807 by omega), impl_num c (show c ≤ 9223372036854775807 by omega), Option.bind_some]
    refine Ev.yes (by omega) ?_
    refine Ev.yes (by simp only [ByteArray.size_append, dot_size]; omega) ?_
    refine Ev.yes (by simp only [ByteArray.size_append, dot_size]; omega) ?_
    refine Ev.yes (by simp only [ByteArray.size_append, dot_size]; omega) ?_
    by_cases hp : (l.length : Int) > 0
    · have hsj : strings_Join.f l (⟨#[46]⟩ : ByteArray) = some (joinB l dot) := strings_join l dot (by omega) (by omega)
      simp only [hp, if_true, hsj, Option.bind_some]
      refine Ev.yes (by omega) ?_
      refine Ev.yes (by simp only [ByteArray.size_append, dot_size, dash_size]; omega) ?_
      exact Ev.some
    · simp only [hp, if_false]
      exact Ev.some
end Go.Proofs.YtpmooegakomnbabDoor.Pure
