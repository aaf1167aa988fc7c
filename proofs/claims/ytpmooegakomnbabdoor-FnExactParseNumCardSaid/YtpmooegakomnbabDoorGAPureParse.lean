/- What ParseNum comes to, of the reference and of the program. -/
import Derived.Test.YtpmooegakomnbabDoorGAPureChars
import Derived.Test.YtpmooegakomnbabDoorGAPureNum
import Derived.Test.YtpmooegakomnbabDoorPGAx1
set_option linter.unusedVariables false
set_option linter.unusedSimpArgs false
namespace Go.Proofs.YtpmooegakomnbabDoor.Pure
open Go.RowKit Go.Proofs.YtpmooegakomnbabDoor.PGA Go.Proofs.YtpmooegakomnbabDoorW.PrintWords Go.Proofs.YtpmooegakomnbabDoorW.PrintLast Go.Proofs.YtpmooegakomnbabDoor.Aux

/-- The number that digits tell. -/
def valL (l : List UInt8) : Nat := l.foldl (fun a b => a * 10 + (b.toNat - 48)) 0
theorem valL_snoc (l : List UInt8) (b : UInt8) : valL (l ++ [b]) = valL l * 10 + (b.toNat - 48) := by
  unfold valL
  rw [List.foldl_append]
  rfl
def digL (b : UInt8) : Bool := digitB (b.toNat : Int)
theorem digL_iff (b : UInt8) : digL b = true ↔ 48 ≤ b.toNat ∧ b.toNat ≤ 57 := by
  unfold digL digitB inB
  simp
  omega
theorem valL_lt : ∀ (n : Nat) (l : List UInt8), l.length = n → (∀ b ∈ l, digL b = true) → valL l < 10 ^ n
  | 0, l, hl, _ => by
    obtain rfl := List.length_eq_zero_iff.1 hl
    decide
  | n + 1, l, hl, hd => by
    obtain ⟨u, b, rfl⟩ : ∃ u b, l = u ++ [b] := ⟨l.dropLast, l.getLast (by intro e; simp [e] at hl), (List.dropLast_concat_getLast _).symm⟩
    have hb := (digL_iff b).1 (hd b (by simp))
    have := valL_lt n u (by simpa using hl) (fun c hc => hd c (by simp [hc]))
    rw [valL_snoc, Nat.pow_succ]
    omega
theorem decDigits_head : ∀ (n u : Nat), u ≤ n → 1 ≤ u → ∃ h t, Lib.decDigits u = h :: t ∧ h ≠ 48
  | 0, u, h, h1 => by omega
  | n + 1, u, h, h1 => by
    by_cases h9 : u < 10
    · refine ⟨UInt8.ofNat (48 + u), [], by rw [Lib.decDigits, dif_pos h9], fun e => ?_⟩
      have := congrArg UInt8.toNat e
      simp at this
      omega
    · obtain ⟨a, t, e, ha⟩ := decDigits_head n (u / 10) (by omega) (by omega)
      exact ⟨a, t ++ [UInt8.ofNat (48 + u % 10)], by rw [Lib.decDigits, dif_neg h9, e]; rfl, ha⟩
/-- No zero ahead of others. -/
def noLead : List UInt8 → Bool
  | [] => false
  | [_] => true
  | b :: _ :: _ => b != 48
theorem decDigits_val : ∀ (n : Nat) (l : List UInt8), l.length = n → (∀ b ∈ l, digL b = true) → noLead l = true → Lib.decDigits (valL l) = l
  | 0, l, hl, _, hn => by
    obtain rfl := List.length_eq_zero_iff.1 hl
    cases hn
  | n + 1, l, hl, hd, hn => by
    obtain ⟨u, b, rfl⟩ : ∃ u b, l = u ++ [b] := ⟨l.dropLast, l.getLast (by intro e; simp [e] at hl), (List.dropLast_concat_getLast _).symm⟩
    have hb := (digL_iff b).1 (hd b (by simp))
    rw [valL_snoc]
    cases u with
    | nil =>
      rw [show valL [] = 0 from rfl, Lib.decDigits, dif_pos (by omega)]
      have : UInt8.ofNat (48 + (0 * 10 + (b.toNat - 48))) = b := by
        apply UInt8.toNat_inj.1
        simp
        omega
      rw [this]
      rfl
    | cons a r =>
      have ha : a ≠ 48 := by
        cases r with
        | nil => simpa [noLead] using hn
        | cons c r => simpa [noLead] using hn
      have had := (digL_iff a).1 (hd a (by simp))
      have hnl : noLead (a :: r) = true := by
        cases r with
        | nil => rfl
        | cons c r => simpa [noLead] using ha
      have ih := decDigits_val n (a :: r) (by simpa using hl) (fun c hc => hd c (by simp at hc ⊢; rcases hc with h | h <;> simp [h])) hnl
      have hpos : 1 ≤ valL (a :: r) := by
        apply Decidable.byContradiction
        intro hz
        have h0 : valL (a :: r) = 0 := by omega
        rw [h0, Lib.decDigits, dif_pos (by omega)] at ih
        have : (48 : UInt8) = a := (List.cons.inj ih).1
        exact ha this.symm
      rw [Lib.decDigits, dif_neg (by omega)]
      rw [show (valL (a :: r) * 10 + (b.toNat - 48)) / 10 = valL (a :: r) by omega, show (valL (a :: r) * 10 + (b.toNat - 48)) % 10 = b.toNat - 48 by omega, ih]
      have : UInt8.ofNat (48 + (b.toNat - 48)) = b := by
        apply UInt8.toNat_inj.1
        simp
        omega
      rw [this]
theorem noLead_of_dec {l : List UInt8} (h : Lib.decDigits (valL l) = l) : noLead l = true := by
  match l, h with
  | [], h =>
    rw [show valL [] = 0 from rfl, Lib.decDigits, dif_pos (by omega)] at h
    cases h
  | [_], _ => rfl
  | a :: b :: r, h =>
    by_cases h0 : valL (a :: b :: r) = 0
    · rw [h0, Lib.decDigits, dif_pos (by omega)] at h
      cases h
    · obtain ⟨c, t, e, hc⟩ := decDigits_head _ _ (Nat.le_refl _) (by omega : 1 ≤ valL (a :: b :: r))
      rw [h] at e
      obtain rfl : a = c := (List.cons.inj e).1
      simpa [noLead] using hc

def valB (s : ByteArray) : Int := (valL s.data.toList : Int)
def parseOk (s : ByteArray) : Bool := inB s.size 1 7 && (s.data.toList.all digL && noLead s.data.toList)
def parseM (s : ByteArray) (most : Int) : Int × Bool := if parseOk s = true ∧ valB s ≤ most then (valB s, true) else (0, false)
theorem take_next {s : ByteArray} {i : Nat} {b : UInt8} (hg : s.data.toList[i]? = some b) : s.data.toList.take (i + 1) = s.data.toList.take i ++ [b] := by
  rw [List.take_add_one, hg]
  rfl
theorem all_not {s : ByteArray} {i : Nat} {b : UInt8} (hg : s.data.toList[i]? = some b) (hb : digL b = false) : s.data.toList.all digL = false := by
  rw [List.all_eq_false]
  exact ⟨b, List.mem_of_getElem? hg, by simp [hb]⟩
theorem step_val {s : ByteArray} {i : Nat} {b : UInt8} (hg : s.data.toList[i]? = some b) (hb : digL b = true) (hd : ∀ c ∈ s.data.toList.take i, digL c = true) (hi : i < 8) (hlt : i < s.size) :
    wrap64 (wrap64 ((valL (s.data.toList.take i) : Int) * 10) + (((b.toNat : Int) - 48) % 256)) = (valL (s.data.toList.take (i + 1)) : Int) ∧ ∀ c ∈ s.data.toList.take (i + 1), digL c = true := by
  have hb' := (digL_iff b).1 hb
  have hl : (s.data.toList.take i).length = i := by rw [List.length_take]; simp; omega
  have hv := valL_lt i _ hl hd
  have hp : 10 ^ i ≤ 10 ^ 7 := Nat.pow_le_pow_right (by omega) (by omega)
  have hp7 : 10 ^ 7 = 10000000 := by decide
  rw [take_next hg, valL_snoc]
  refine ⟨?_, fun c hc => ?_⟩
  · rw [wrap64_id (i := (valL (s.data.toList.take i) : Int) * 10) (by omega) (by omega), wrap64_id (by omega) (by omega)]
    omega
  · rcases List.mem_append.1 hc with h | h
    · exact hd c h
    · rw [List.mem_singleton.1 h]; exact hb
theorem noLead_bytes {s : ByteArray} (h1 : 1 ≤ s.size) : noLead s.data.toList = (decide (¬ (s.size : Int) > 1) || decide (¬ bt s 0 = 48)) := by
  obtain ⟨b, hb, hbt, _⟩ := data_drop (s := s) (i := 0) (by omega)
  rw [List.drop_zero] at hb
  have hl : s.data.toList.length = s.size := by simp
  rw [show ((0 : Nat) : Int) = 0 from rfl] at hbt
  rw [hbt]
  cases hr : s.data.toList.drop 1 with
  | nil =>
    rw [hb, hr] at hl ⊢
    simp only [List.length_cons, List.length_nil] at hl
    simp [noLead, show ¬ (s.size : Int) > 1 by omega]
  | cons c r =>
    rw [hb, hr] at hl ⊢
    simp only [List.length_cons] at hl
    simp only [noLead, show (s.size : Int) > 1 by omega, not_true, decide_false, Bool.false_or]
    rw [Bool.eq_iff_iff]
    simp only [bne_iff_ne, ne_eq, decide_eq_true_eq]
    refine ⟨fun h e => h (UInt8.toNat_inj.1 (by simp; omega)), fun h e => h (by rw [e]; rfl)⟩

theorem spec_parse_big (s : ByteArray) (most : Int) (hs : 7 < s.size) (hs2 : s.size ≤ 9223372036854775807) (d : Nat) : ∀ (i : Nat) (n : Int), i + d = 8 → Ev (fun k => spec_ParseNum.l0 k s most n (i : Int)) (0, false) := by
  have hin : inB (s.size : Int) 1 7 = false := by unfold inB; simp; omega
  induction d with
  | zero =>
    intro i n hi
    obtain rfl : i = 8 := by omega
    refine Ev.succ ?_
    by_cases h : ((8 : Nat) : Int) < (s.size : Int)
    · simp only [spec_ParseNum.l0, h, if_true, show decide (((8 : Nat) : Int) < 8) = false from rfl]
      refine Ev.succ ?_
      simp only [spec_ParseNum.j1, Bool.false_eq_true, if_false, in_f, hin, Option.bind_some]
      exact Ev.some
    · simp only [spec_ParseNum.l0, h, if_false]
      refine Ev.succ ?_
      simp only [spec_ParseNum.j1, Bool.false_eq_true, if_false, in_f, hin, Option.bind_some]
      exact Ev.some
  | succ d ih =>
    intro i n hi
    have h1 : (i : Int) < (s.size : Int) := by omega
    have h2 : (0 : Int) ≤ (i : Int) := by omega
    have h3 := next_i (show i < s.size by omega) hs2
    refine Ev.succ ?_
    simp only [spec_ParseNum.l0, h1, if_true, show decide ((i : Int) < 8) = true by simp; omega]
    refine Ev.succ ?_
    simp only [spec_ParseNum.j1, if_true, h1, h2, h3, digit_spec (bt_range s i), Option.bind_some]
    cases hp : digitB (bt s (i : Int)) with
    | true => simpa using ih (i + 1) _ (by omega)
    | false => simpa using Ev.some
theorem spec_parse_l (s : ByteArray) (most : Int) (hs : s.size ≤ 7) (d : Nat) : ∀ (i : Nat), i + d = s.size → (∀ c ∈ s.data.toList.take i, digL c = true) → Ev (fun k => spec_ParseNum.l0 k s most (valL (s.data.toList.take i) : Int) (i : Int)) (parseM s most) := by
  induction d with
  | zero =>
    intro i hi hd
    obtain rfl : i = s.size := by omega
    have ht : s.data.toList.take s.size = s.data.toList := List.take_of_length_le (by simp)
    rw [ht] at hd ⊢
    have hall : s.data.toList.all digL = true := List.all_eq_true.2 hd
    refine Ev.succ ?_
    simp only [spec_ParseNum.l0, show ¬ (s.size : Int) < (s.size : Int) by omega, if_false]
    refine Ev.succ ?_
    simp only [spec_ParseNum.j1, Bool.false_eq_true, if_false, in_f, Option.bind_some]
    unfold parseM parseOk
    rw [hall, Bool.true_and]
    cases hb : inB (s.size : Int) 1 7 with
    | false => simpa using Ev.some
    | true =>
      have h1 : 1 ≤ s.size := by unfold inB at hb; simp at hb; omega
      rw [noLead_bytes h1]
      simp only [if_true, Bool.true_and]
      by_cases hg : (s.size : Int) > 1
      · simp only [hg, if_true, show (0 : Int) < (s.size : Int) by omega, not_true, decide_false, Bool.false_or]
        by_cases hz : bt s 0 = 48
        · simp only [hz, if_true, not_true, decide_false]
          simpa using Ev.some
        · simp only [hz, if_false, not_false_eq_true, decide_true, true_and]
          by_cases hm : (valL s.data.toList : Int) > most
          · simp only [hm, if_true]
            rw [if_neg (by unfold valB; omega)]
            exact Ev.some
          · simp only [hm, if_false]
            rw [if_pos (by unfold valB; omega)]
            exact Ev.some
      · simp only [hg, if_false, not_false_eq_true, decide_true, Bool.true_or, true_and]
        by_cases hm : (valL s.data.toList : Int) > most
        · simp only [hm, if_true]
          rw [if_neg (by unfold valB; omega)]
          exact Ev.some
        · simp only [hm, if_false]
          rw [if_pos (by unfold valB; omega)]
          exact Ev.some
  | succ d ih =>
    intro i hi hd
    have hlt : i < s.size := by omega
    have h1 : (i : Int) < (s.size : Int) := by omega
    have h2 : (0 : Int) ≤ (i : Int) := by omega
    have h3 := next_i hlt (by omega)
    obtain ⟨b, _, hbt, hg⟩ := data_drop hlt
    refine Ev.succ ?_
    simp only [spec_ParseNum.l0, h1, if_true, show decide ((i : Int) < 8) = true by simp; omega]
    refine Ev.succ ?_
    simp only [spec_ParseNum.j1, if_true, h1, h2, h3, digit_spec (bt_range s i), Option.bind_some]
    rw [hbt]
    show Ev (fun k => if digL b = true then _ else _) _
    cases hp : digL b with
    | true =>
      have hst := step_val hg hp hd (by omega) hlt
      simp only [if_true, hst.1]
      exact ih (i + 1) (by omega) hst.2
    | false =>
      simp only [Bool.false_eq_true, if_false]
      unfold parseM parseOk
      rw [all_not hg hp]
      simpa using Ev.some
theorem spec_parse (s : ByteArray) (most : Int) (hs : s.size ≤ 9223372036854775807) : Ev (fun k => spec_ParseNum.f k s most) (parseM s most) := by
  unfold spec_ParseNum.f
  by_cases h7 : s.size ≤ 7
  · exact spec_parse_l s most h7 s.size 0 (by omega) (by simp)
  · have := spec_parse_big s most (by omega) hs 8 0 0 (by omega)
    have hin : inB (s.size : Int) 1 7 = false := by unfold inB; simp; omega
    unfold parseM parseOk
    rw [hin]
    simpa using this
theorem impl_parse_l (s : ByteArray) (most : Int) (hs1 : 1 ≤ s.size) (hs : s.size ≤ 7) (d : Nat) : ∀ (i : Nat), i + d = s.size → (∀ c ∈ s.data.toList.take i, digL c = true) → Ev (fun k => impl_ParseNum.l0 k s most (valL (s.data.toList.take i) : Int) (i : Int)) (parseM s most) := by
  have hin : inB (s.size : Int) 1 7 = true := by unfold inB; simp; omega
  induction d with
  | zero =>
    intro i hi hd
    obtain rfl : i = s.size := by omega
    have ht : s.data.toList.take s.size = s.data.toList := List.take_of_length_le (by simp)
    rw [ht] at hd ⊢
    have hall : s.data.toList.all digL = true := List.all_eq_true.2 hd
    have hv := valL_lt s.size s.data.toList (by simp) hd
    have hp : 10 ^ s.size ≤ 10 ^ 7 := Nat.pow_le_pow_right (by omega) (by omega)
    have hp7 : 10 ^ 7 = 10000000 := by decide
    refine Ev.succ ?_
    simp only [impl_ParseNum.l0, show ¬ (s.size : Int) < (s.size : Int) by omega, if_false]
    simp only [impl_num (valL s.data.toList : Int) (by omega), Option.bind_some, toList_data]
    unfold numB parseM parseOk
    rw [data_ofL, Int.toNat_natCast, hall, hin]
    by_cases hn : noLead s.data.toList = true
    · have he := decDigits_val _ _ rfl hd hn
      simp only [he, if_true, hn, Bool.true_and, true_and]
      by_cases hm : (valL s.data.toList : Int) > most
      · simp only [hm, if_true]
        rw [if_neg (by unfold valB; omega)]
        exact Ev.some
      · simp only [hm, if_false]
        rw [if_pos (by unfold valB; omega)]
        exact Ev.some
    · have he : ¬ Lib.decDigits (valL s.data.toList) = s.data.toList := fun e => hn (noLead_of_dec e)
      simp only [he, if_false, hn, Bool.true_and, false_and]
      exact Ev.some
  | succ d ih =>
    intro i hi hd
    have hlt : i < s.size := by omega
    have h1 : (i : Int) < (s.size : Int) := by omega
    have h2 : (0 : Int) ≤ (i : Int) := by omega
    have h3 := next_i hlt (by omega)
    obtain ⟨b, _, hbt, hg⟩ := data_drop hlt
    refine Ev.succ ?_
    simp only [impl_ParseNum.l0, if_true, h1, h2, h3, digit_impl, Option.bind_some]
    rw [hbt]
    show Ev (fun k => if digL b = true then _ else _) _
    cases hp : digL b with
    | true =>
      have hst := step_val hg hp hd (by omega) hlt
      simp only [if_true, hst.1]
      exact ih (i + 1) (by omega) hst.2
    | false =>
      simp only [Bool.false_eq_true, if_false]
      unfold parseM parseOk
      rw [all_not hg hp]
      simpa using Ev.some
theorem impl_parse (s : ByteArray) (most : Int) : Ev (fun k => impl_ParseNum.f k s most) (parseM s most) := by
  unfold impl_ParseNum.f
  simp only [inRange_f, Option.bind_some]
  cases hb : inB (s.size : Int) 1 7 with
  | false =>
    unfold parseM parseOk
    rw [hb]
    simpa using Ev.some
  | true =>
    have hb' := hb
    unfold inB at hb'
    simp at hb'
    simp only [if_true]
    refine Ev.succ ?_
    simp only [impl_ParseNum.j0]
    exact impl_parse_l s most (by omega) (by omega) s.size 0 (by omega) (by simp)
end Go.Proofs.YtpmooegakomnbabDoor.Pure
