/- What VerOk comes to, of the reference and of the program. -/
import Derived.Test.YtpmooegakomnbabDoorGBPureDigits
import Derived.Test.YtpmooegakomnbabDoorPGBx1
import Derived.Test.YtpmooegakomnbabDoorPGBx3
set_option linter.unusedVariables false
set_option linter.unusedSimpArgs false
namespace Go.Proofs.YtpmooegakomnbabDoor.Pure
open Go.RowKit Go.Proofs.YtpmooegakomnbabDoor.PGB Go.Proofs.YtpmooegakomnbabDoorW.PrintWords Go.Proofs.YtpmooegakomnbabDoorW.PrintLast Go.Proofs.YtpmooegakomnbabDoor.Aux

def preC (x : Int) : Bool := smallB x || upperB x || digitB x || decide (x = 45)
def preEnd (s : ByteArray) : Bool := inB s.size 1 8 && (!digitsB s || decide (s.size = 1) || decide (bt s 0 ≠ 48))
def preB (s : ByteArray) : Bool := (bs s).all preC && preEnd s

theorem spec_part_l (s : ByteArray) (hs : s.size ≤ 9223372036854775807) (d : Nat) : ∀ i : Nat, i + d = s.size → Ev (fun k => spec_l3Part.l0 k s (i : Int)) (((bs s).drop i).all preC && preEnd s) := by
  induction d with
  | zero =>
    intro i hi
    have h1 : ¬ (i : Int) < (s.size : Int) := by omega
    refine Ev.succ ?_
    simp only [spec_l3Part.l0, h1, if_false, bs_end (show s.size ≤ i by omega), List.all_nil, Bool.true_and, in_f, Option.bind_some, preEnd]
    cases hb : inB (s.size : Int) 1 8 with
    | false => simpa using Ev.some
    | true =>
      simp only [if_true, Bool.true_and]
      refine Ev.bind (spec_digits s hs) ?_
      cases hd : digitsB s with
      | false => simpa using Ev.some
      | true =>
        have hpos : (0 : Int) < (s.size : Int) := by simp [inB] at hb; omega
        simp only [if_true, hpos, Bool.not_true, Bool.false_or]
        by_cases he : (s.size : Int) = 1
        · simp only [he, if_true]
          refine Ev.cast Ev.some ?_
          simp [show s.size = 1 by omega]
        · simp only [he, if_false]
          refine Ev.cast Ev.some ?_
          simp only [show ¬ s.size = 1 by omega, decide_false, Bool.false_or]
          by_cases h0 : bt s 0 = 48 <;> simp [h0]
  | succ d ih =>
    intro i hi
    have h1 : (i : Int) < (s.size : Int) := by omega
    have h2 : (0 : Int) ≤ (i : Int) := by omega
    have h3 := next_i (show i < s.size by omega) hs
    have ih' := ih (i + 1) (by omega)
    have hr := bt_range s i
    refine Ev.succ ?_
    rw [bs_drop (by omega), List.all_cons]
    simp only [spec_l3Part.l0, h1, if_true]
    refine Ev.succ ?_
    simp only [spec_l3Part.j1, h1, h2, h3, if_true, digit_spec hr, small_spec hr, wrap64_id (show -9223372036854775808 ≤ bt s (i : Int) by omega) (show bt s (i : Int) ≤ 9223372036854775807 by omega), in_f, Option.bind_some, preC]
    cases hp : digitB (bt s (i : Int)) with
    | true => simpa using ih'
    | false =>
      cases hq : smallB (bt s (i : Int)) with
      | true => simpa using ih'
      | false =>
        cases hu : inB (bt s (i : Int)) 65 90 with
        | true => simpa [upperB, hu] using ih'
        | false =>
          by_cases he : bt s (i : Int) = 45
          · simpa [he] using ih'
          · simpa [upperB, hu, he] using Ev.some
theorem spec_part (s : ByteArray) (hs : s.size ≤ 9223372036854775807) : Ev (fun k => spec_l3Part.f k s) (preB s) := spec_part_l s hs s.size 0 (by omega)

theorem one_zero (s : ByteArray) : s.toList = ([48] : List UInt8) ↔ (s.size = 1 ∧ bt s 0 = 48) := by
  rw [toList_data]
  constructor
  · intro h
    have hl : s.size = 1 := by
      have := congrArg List.length h
      simpa using this
    refine ⟨hl, ?_⟩
    rw [bt_bs]
    unfold bs
    rw [h]
    rfl
  · rintro ⟨h1, h2⟩
    rw [bt_bs] at h2
    have hb : bs s = [48] := by
      have hl := bs_length s
      rw [h1] at hl
      match hq : bs s, hl with
      | [x], _ =>
        rw [hq] at h2
        simp at h2
        rw [h2]
    unfold bs at hb
    match hq : s.data.toList with
    | [] => rw [hq] at hb; cases hb
    | [x] =>
      rw [hq] at hb
      simp at hb
      have : x = 48 := by
        apply UInt8.toNat_inj.1
        simp
        omega
      rw [this]
    | x :: y :: r => rw [hq] at hb; simp at hb

theorem impl_pre_l (s : ByteArray) (hs : s.size ≤ 9223372036854775807) (d : Nat) : ∀ i : Nat, i + d = s.size → Ev (fun k => impl_preOk.l0 k s (i : Int)) (((bs s).drop i).all preC && preEnd s) := by
  induction d with
  | zero =>
    intro i hi
    have h1 : ¬ (i : Int) < (s.size : Int) := by omega
    refine Ev.succ ?_
    simp only [impl_preOk.l0, h1, if_false, bs_end (show s.size ≤ i by omega), List.all_nil, Bool.true_and, inRange_f, Option.bind_some, preEnd]
    cases hb : inB (s.size : Int) 1 8 with
    | false => simpa using Ev.some
    | true =>
      simp only [if_true, Bool.true_and]
      have hpos : (0 : Int) < (s.size : Int) := by simp [inB] at hb; omega
      refine Ev.bind (impl_figures s hs) ?_
      simp only [show s.size ≠ 0 by omega, ne_eq, not_false_eq_true, decide_true, Bool.and_true]
      cases hd : digitsB s with
      | false => simpa using Ev.some
      | true =>
        simp only [if_true, hpos, Bool.not_true, Bool.false_or, one_zero]
        by_cases he : s.size = 1
        · by_cases h0 : bt s 0 = 48
          · simp only [he, h0, and_self, if_true]
            exact Ev.some
          · simp only [he, h0, and_false, if_false]
            refine Ev.cast Ev.some ?_
            simp [h0]
        · simp only [he, false_and, if_false]
          refine Ev.cast Ev.some ?_
          simp only [decide_false, Bool.false_or]
          by_cases h0 : bt s 0 = 48 <;> simp [h0]
  | succ d ih =>
    intro i hi
    have h1 : (i : Int) < (s.size : Int) := by omega
    have h2 : (0 : Int) ≤ (i : Int) := by omega
    have h3 := next_i (show i < s.size by omega) hs
    have ih' := ih (i + 1) (by omega)
    have hr := bt_range s i
    refine Ev.succ ?_
    rw [bs_drop (by omega), List.all_cons]
    simp only [impl_preOk.l0, h1, if_true]
    refine Ev.succ ?_
    simp only [impl_preOk.j1, h1, h2, h3, if_true, digit_impl, small_impl, Option.bind_some, preC, upperB, inB, ge_iff_le]
    cases hq : smallB (bt s (i : Int)) with
    | true => simpa using ih'
    | false =>
      by_cases ha : 65 ≤ bt s (i : Int)
      · by_cases hb : bt s (i : Int) ≤ 90
        · simpa [ha, hb] using ih'
        · cases hp : digitB (bt s (i : Int)) with
          | true => simpa [ha, hb] using ih'
          | false =>
            by_cases he : bt s (i : Int) = 45
            · simp [he] at ha
            · simpa [ha, hb, he] using Ev.some
      · cases hp : digitB (bt s (i : Int)) with
        | true => simpa [ha] using ih'
        | false =>
          by_cases he : bt s (i : Int) = 45
          · simpa [he] using ih'
          · simpa [ha, he] using Ev.some
theorem impl_pre (s : ByteArray) (hs : s.size ≤ 9223372036854775807) : Ev (fun k => impl_preOk.f k s) (preB s) := impl_pre_l s hs s.size 0 (by omega)

def verEnd (a b c : Int) (l : List ByteArray) : Bool := inB a 0 9999 && (inB b 0 9999 && (inB c 0 9999 && decide ((l.length : Int) ≤ 3)))
def verB (a b c : Int) (l : List ByteArray) : Bool := l.all preB && verEnd a b c l

theorem spec_ver_l (a b c : Int) (l : List ByteArray) (hl : l.length ≤ 9223372036854775807) (hs : ∀ x ∈ l, x.size ≤ 9223372036854775807) (d : Nat) : ∀ i : Nat, i + d = l.length → Ev (fun k => spec_VerOk.l0 k (i : Int) a b c l) ((l.drop i).all preB && verEnd a b c l) := by
  induction d with
  | zero =>
    intro i hi
    have h1 : ¬ (i : Int) < (l.length : Int) := by omega
    refine Ev.succ ?_
    rw [List.drop_eq_nil_of_le (by omega)]
    simp only [spec_VerOk.l0, h1, if_false, List.all_nil, Bool.true_and, in_f, Option.bind_some, verEnd]
    cases inB a 0 9999 <;> cases inB b 0 9999 <;> cases inB c 0 9999 <;> simpa using Ev.some
  | succ d ih =>
    intro i hi
    have hlt : i < l.length := by omega
    have h1 : (i : Int) < (l.length : Int) := by omega
    have h2 : (0 : Int) ≤ (i : Int) := by omega
    have h3 := next_i hlt hl
    have ih' := ih (i + 1) (by omega)
    refine Ev.succ ?_
    rw [drop_get hlt, List.all_cons]
    simp only [spec_VerOk.l0, h1, h2, h3, if_true, rdOf_cast _ hlt]
    refine Ev.bind (spec_part l[i] (hs _ (List.getElem_mem hlt))) ?_
    cases hp : preB l[i] with
    | true => simpa using ih'
    | false => simpa using Ev.some
theorem spec_ver (a b c : Int) (l : List ByteArray) (hl : l.length ≤ 9223372036854775807) (hs : ∀ x ∈ l, x.size ≤ 9223372036854775807) : Ev (fun k => spec_VerOk.f k a b c l) (verB a b c l) := spec_ver_l a b c l hl hs l.length 0 (by omega)

theorem impl_ver_l (a b c : Int) (l : List ByteArray) (hl : l.length ≤ 9223372036854775807) (hs : ∀ x ∈ l, x.size ≤ 9223372036854775807) (d : Nat) : ∀ i : Nat, i + d = l.length → Ev (fun k => impl_VerOk.l0 k l (l.length : Int) (i : Int) a b c l) ((l.drop i).all preB && verEnd a b c l) := by
  induction d with
  | zero =>
    intro i hi
    have h1 : ¬ (i : Int) < (l.length : Int) := by omega
    refine Ev.succ ?_
    rw [List.drop_eq_nil_of_le (by omega)]
    simp only [impl_VerOk.l0, h1, if_false, List.all_nil, Bool.true_and, inRange_f, Option.bind_some, verEnd]
    cases inB a 0 9999 <;> cases inB b 0 9999 <;> cases inB c 0 9999 <;> simpa using Ev.some
  | succ d ih =>
    intro i hi
    have hlt : i < l.length := by omega
    have h1 : (i : Int) < (l.length : Int) := by omega
    have h2 : (0 : Int) ≤ (i : Int) := by omega
    have h3 := next_i hlt hl
    have ih' := ih (i + 1) (by omega)
    refine Ev.succ ?_
    rw [drop_get hlt, List.all_cons]
    simp only [impl_VerOk.l0, h1, h2, h3, if_true, rdOf_cast _ hlt]
    refine Ev.bind (impl_pre l[i] (hs _ (List.getElem_mem hlt))) ?_
    cases hp : preB l[i] with
    | true => simpa using ih'
    | false => simpa using Ev.some
theorem impl_ver (a b c : Int) (l : List ByteArray) (hl : l.length ≤ 9223372036854775807) (hs : ∀ x ∈ l, x.size ≤ 9223372036854775807) : Ev (fun k => impl_VerOk.f k a b c l) (verB a b c l) := impl_ver_l a b c l hl hs l.length 0 (by omega)

end Go.Proofs.YtpmooegakomnbabDoor.Pure
