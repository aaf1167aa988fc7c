/- What NumText comes to, of the reference and of the program: the decimal digits. -/
import Derived.Test.YtpmooegakomnbabDoorGBPureParts
import Derived.Lib.ItoaNum
import Derived.Test.YtpmooegakomnbabDoorPGBx1
import Derived.Test.YtpmooegakomnbabDoorPGBx2
set_option linter.unusedVariables false
set_option linter.unusedSimpArgs false
namespace Go.Proofs.YtpmooegakomnbabDoor.Pure
open Go.RowKit Go.Proofs.YtpmooegakomnbabDoor.PGB Go.Proofs.YtpmooegakomnbabDoorW.PrintWords Go.Proofs.YtpmooegakomnbabDoorW.PrintLast Go.Proofs.YtpmooegakomnbabDoor.Aux

/-- The text of a number's digits; of one below 0: "0". -/
def numB (x : Int) : ByteArray := ofL (Lib.decDigits x.toNat)
theorem dig_one (x : Nat) : strOfNums [wrap64 (48 + Int.tmod (x : Int) 10) % 256] = ofL [UInt8.ofNat (48 + x % 10)] := by
  have h : wrap64 (48 + Int.tmod (x : Int) 10) % 256 = ((48 + x % 10 : Nat) : Int) := by
    rw [Int.tmod_eq_emod_of_nonneg (by omega), wrap64_id (by omega) (by omega)]
    omega
  rw [h]
  rfl
theorem ofL_append (a b : List UInt8) : ofL a ++ ofL b = ofL (a ++ b) := by
  rw [← ofL_data (ofL a ++ ofL b)]
  simp [ofL]
theorem spec_num_l (m : Nat) : ∀ (x : Nat) (rest : List UInt8), x < 10 ^ m → x ≤ 9223372036854775807 → m + rest.length ≤ 100 →
    Ev (fun k => spec_NumText.l0 k (x : Int) (ofL (UInt8.ofNat (48 + x % 10) :: rest))) (ofL (Lib.decDigits x ++ rest)) := by
  induction m with
  | zero =>
    intro x rest hx _ hr
    obtain rfl : x = 0 := by simp at hx; exact hx
    refine Ev.succ ?_
    simp only [spec_NumText.l0, show ¬ ((0 : Nat) : Int) > 9 by omega, if_false]
    refine Ev.cast Ev.some ?_
    rw [Lib.decDigits, dif_pos (by omega)]
    rfl
  | succ m ih =>
    intro x rest hx hx2 hr
    by_cases h9 : x < 10
    · refine Ev.succ ?_
      simp only [spec_NumText.l0, show ¬ (x : Int) > 9 by omega, if_false]
      refine Ev.cast Ev.some ?_
      rw [Lib.decDigits, dif_pos h9, Nat.mod_eq_of_lt h9]
      rfl
    · have hd : wrap64 (Int.tdiv (x : Int) 10) = ((x / 10 : Nat) : Int) := by
        rw [Int.tdiv_eq_ediv_of_nonneg (by omega), wrap64_id (by omega) (by omega)]
        omega
      have hw : ∀ (y : Nat), (strOfNums [wrap64 (48 + Int.tmod (y : Int) 10) % 256]) = ofL [UInt8.ofNat (48 + y % 10)] := dig_one
      have := ih (x / 10) (UInt8.ofNat (48 + x % 10) :: rest) (by rw [Nat.pow_succ] at hx; omega) (by omega) (by simp only [List.length_cons]; omega)
      refine Ev.succ ?_
      simp only [spec_NumText.l0, show (x : Int) > 9 by omega, if_true, Option.bind_some, hd, hw, ofL_append, ofL_size, List.length_cons, List.length_nil, show 0 + 1 + (rest.length + 1) ≤ 9223372036854775807 by omega]
      refine Ev.cast this ?_
      rw [show Lib.decDigits x = Lib.decDigits (x / 10) ++ [UInt8.ofNat (48 + x % 10)] from by rw [Lib.decDigits, dif_neg h9]]
      simp
theorem spec_num (x : Int) (h : x ≤ 9223372036854775807) : Ev (fun k => spec_NumText.f k x) (numB x) := by
  unfold spec_NumText.f numB
  by_cases h0 : x < 0
  · simp only [h0, if_true]
    refine Ev.succ ?_
    simp only [spec_NumText.j0]
    have := spec_num_l 1 0 [] (by omega) (by omega) (by simp)
    rw [show x.toNat = 0 by omega]
    have hd := dig_one 0
    rw [show ((0 : Nat) : Int) = 0 from rfl] at hd this
    rw [hd]
    simpa using this
  · simp only [h0, if_false]
    obtain ⟨n, rfl⟩ : ∃ n : Nat, x = n := ⟨x.toNat, by omega⟩
    refine Ev.succ ?_
    simp only [spec_NumText.j0]
    have := spec_num_l 19 n [] (by omega) (by omega) (by simp)
    rw [dig_one n]
    simpa using this
theorem impl_num (x : Int) (h : x ≤ 9223372036854775807) : impl_NumText.f x = some (numB x) := by
  unfold impl_NumText.f strconv_Itoa.f
  have hm : mx x 0 = (x.toNat : Int) := by unfold mx; split <;> omega
  rw [hm, if_pos ⟨by omega, by omega⟩]
  simp only [Option.bind_some, numB, Lib.itoa, show ¬ ((x.toNat : Nat) : Int) < 0 by omega, if_false, Int.toNat_natCast]
  rfl
end Go.Proofs.YtpmooegakomnbabDoor.Pure
