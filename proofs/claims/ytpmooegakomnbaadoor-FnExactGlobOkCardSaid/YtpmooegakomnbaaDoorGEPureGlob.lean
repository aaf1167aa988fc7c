/- What GlobOk comes to, of the reference and of the program. -/
import Derived.Test.YtpmooegakomnbaaDoorGEPureSlash
import Derived.Test.YtpmooegakomnbaaDoorPGEx2
import Derived.Test.YtpmooegakomnbaaDoorPGEx3
set_option linter.unusedVariables false
set_option linter.unusedSimpArgs false
namespace Go.Proofs.YtpmooegakomnbaaDoor.Pure
open Go.RowKit Go.Proofs.YtpmooegakomnbaaDoor.PGE Go.Proofs.YtpmooegakomnbaaDoorW.PrintWords Go.Proofs.YtpmooegakomnbaaDoorW.PrintLast Go.Proofs.YtpmooegakomnbaaDoor.Aux

def ccB (b : UInt8) : Bool := smallB (b.toNat : Int) || digitB (b.toNat : Int)
/-- How many letters and digits a text begins with. -/
def runN (l : List UInt8) : Nat := (l.takeWhile ccB).length
def notN (l : List UInt8) : Nat := if l.head? = some 33 then 1 else 0
/-- A class behind its bracket: how many bytes it takes, up to the closing one; 0: it is none. -/
def clsN (l : List UInt8) : Nat := if 1 ≤ runN (l.drop (notN l)) ∧ runN (l.drop (notN l)) ≤ 5 ∧ (l.drop (notN l + runN (l.drop (notN l)))).head? = some 93 then notN l + runN (l.drop (notN l)) + 1 else 0
/-- How many bytes the first unit takes; 0: there is none. -/
def unitN : List UInt8 → Nat
  | [] => 0
  | b :: r => if pathC (b.toNat : Int) = true ∨ b = 63 ∨ b = 42 then 1 else if b = 91 then (if clsN r = 0 then 0 else 1 + clsN r) else 0
theorem runN_le (l : List UInt8) : runN l ≤ l.length := (List.takeWhile_sublist _).length_le
theorem runN_cons (b : UInt8) (l : List UInt8) : runN (b :: l) = if ccB b = true then runN l + 1 else 0 := by
  unfold runN
  rw [List.takeWhile_cons]
  cases ccB b <;> simp
theorem clsN_le (l : List UInt8) : clsN l ≤ l.length := by
  unfold clsN
  split
  · rename_i h
    obtain ⟨_, _, h3⟩ := h
    have : (l.drop (notN l + runN (l.drop (notN l)))).length ≠ 0 := by
      intro e
      rw [List.length_eq_zero_iff.1 e] at h3
      cases h3
    rw [List.length_drop] at this
    omega
  · omega
theorem unitN_le (l : List UInt8) : unitN l ≤ l.length := by
  cases l with
  | nil => simp [unitN]
  | cons b r =>
    have := clsN_le r
    simp only [unitN, List.length_cons]
    split
    · omega
    · split
      · split <;> omega
      · omega
/-- From a number of units on: is the rest made of units, and are they as many as may be? -/
def unitsF : Nat → List UInt8 → Int → Bool
  | 0, _, n => inB n 1 12
  | f + 1, l, n => if l = [] then inB n 1 12 else if unitN l = 0 then false else unitsF f (l.drop (unitN l)) (n + 1)
def pieceB (s : ByteArray) : Bool := unitsF (s.size + 1) s.data.toList 0
theorem cc_impl {s : ByteArray} {i : Nat} {b : UInt8} (hbt : bt s (i : Int) = (b.toNat : Int)) : (smallB (bt s (i : Int)) || digitB (bt s (i : Int))) = ccB b := by
  unfold ccB
  rw [hbt]

/-- What the program's loop over a class answers. -/
def clsR (s : ByteArray) (i j : Nat) : Int := if 1 ≤ j + runN (s.data.toList.drop i) ∧ j + runN (s.data.toList.drop i) ≤ 5 ∧ (s.data.toList.drop (i + runN (s.data.toList.drop i))).head? = some 93 then ((i + runN (s.data.toList.drop i) + 1 : Nat) : Int) else 0
theorem head_at {s : ByteArray} {i : Nat} : (s.data.toList.drop i).head? = s.data.toList[i]? := by
  rw [List.head?_drop]
theorem head_93 {s : ByteArray} {i : Nat} (h : i < s.size) : (s.data.toList.drop i).head? = some 93 ↔ bt s (i : Int) = 93 := by
  obtain ⟨b, _, hbt, hg⟩ := data_drop h
  rw [head_at, hg, hbt]
  refine ⟨fun e => by rw [Option.some.inj e]; rfl, fun e => ?_⟩
  rw [show b = 93 from UInt8.toNat_inj.1 (by simp; omega)]
theorem impl_cls_l (s : ByteArray) (hs : s.size ≤ 16777216) (fr : Nat) (d : Nat) : ∀ i : Nat, i + d = s.size → fr ≤ i → Ev (fun k => impl_unitOf.l0 k s (i : Int) (fr : Int)) (clsR s i (i - fr)) := by
  induction d with
  | zero =>
    intro i hi hf
    obtain rfl : i = s.size := by omega
    have hd : s.data.toList.drop s.size = [] := List.drop_eq_nil_of_le (by simp)
    refine Ev.succ ?_
    simp only [impl_unitOf.l0, show ¬ (s.size : Int) < (s.size : Int) by omega, if_false, inRange_f, Option.bind_some, if_true]
    refine Ev.cast (r := 0) ?_ ?_
    · cases inB (wrap64 ((s.size : Int) - (fr : Int))) 1 5 <;> simpa using Ev.some
    · unfold clsR
      simp only [hd, show runN [] = 0 from rfl, Nat.add_zero]
      simp
  | succ d ih =>
    intro i hi hf
    have hlt : i < s.size := by omega
    have h1 : (i : Int) < (s.size : Int) := by omega
    have h2 : (0 : Int) ≤ (i : Int) := by omega
    have h3 := next_i hlt (by omega)
    obtain ⟨b, hb, hbt, hg⟩ := data_drop hlt
    have hw : wrap64 ((i : Int) - (fr : Int)) = ((i - fr : Nat) : Int) := by rw [wrap64_id (by omega) (by omega)]; omega
    have ih' := ih (i + 1) (by omega) (by omega)
    have hstep : ccB b = true → clsR s i (i - fr) = clsR s (i + 1) (i + 1 - fr) := fun hc => by
      unfold clsR
      rw [hb, runN_cons, if_pos hc, show i - fr + (runN (s.data.toList.drop (i + 1)) + 1) = i + 1 - fr + runN (s.data.toList.drop (i + 1)) by omega, show i + (runN (s.data.toList.drop (i + 1)) + 1) = i + 1 + runN (s.data.toList.drop (i + 1)) by omega]
    have hend : ccB b = false → clsR s i (i - fr) = if 1 ≤ i - fr ∧ i - fr ≤ 5 ∧ bt s (i : Int) = 93 then ((i + 1 : Nat) : Int) else 0 := fun hc => by
      have hr0 : runN (s.data.toList.drop i) = 0 := by rw [hb, runN_cons, if_neg (by simp [hc])]
      unfold clsR
      rw [hr0]
      simp only [Nat.add_zero, head_93 hlt]
    refine Ev.succ ?_
    simp only [impl_unitOf.l0, h1, h2, h3, if_true, small_impl, digit_impl, Option.bind_some]
    cases hp : smallB (bt s (i : Int)) with
    | true =>
      have hc : ccB b = true := by rw [← cc_impl hbt, hp]; rfl
      simp only [if_true]
      exact Ev.cast ih' (hstep hc).symm
    | false =>
      simp only [Bool.false_eq_true, if_false]
      cases hq : digitB (bt s (i : Int)) with
      | true =>
        have hc : ccB b = true := by rw [← cc_impl hbt, hp, hq]; rfl
        simp only [if_true]
        exact Ev.cast ih' (hstep hc).symm
      | false =>
        have hc : ccB b = false := by rw [← cc_impl hbt, hp, hq]; rfl
        simp only [Bool.false_eq_true, if_false, inRange_f, Option.bind_some, hw, show ¬ (i : Int) = (s.size : Int) by omega]
        refine Ev.cast (Ev.const (r := if inB ((i - fr : Nat) : Int) 1 5 = true then (if bt s (i : Int) = 93 then ((i + 1 : Nat) : Int) else 0) else 0) (by split <;> (try split) <;> rfl)) ?_
        rw [hend hc]
        unfold inB
        by_cases e1 : 1 ≤ i - fr <;> by_cases e2 : i - fr ≤ 5 <;> by_cases e3 : bt s (i : Int) = 93 <;> simp [e1, e2, e3] <;> omega
theorem hasPrefix_bang (l : List UInt8) : Lib.hasPrefix l [33] = decide (l.head? = some 33) := by
  unfold Lib.hasPrefix
  cases l with
  | nil => rfl
  | cons b r =>
    simp only [List.isPrefixOf, Bool.and_true, List.head?_cons, Option.some.injEq]
    rw [Bool.eq_iff_iff]
    simp
    exact ⟨fun h => h.symm, fun h => h.symm⟩
theorem clsR_cls (s : ByteArray) (m : Nat) (r : List UInt8) (hr : s.data.toList.drop 1 = r) (hm : m = notN r) : clsR s (1 + m) 0 = if clsN r = 0 then 0 else ((1 + clsN r : Nat) : Int) := by
  subst hm
  unfold clsR clsN
  have e1 : s.data.toList.drop (1 + notN r) = r.drop (notN r) := by rw [← hr, List.drop_drop]
  have e2 : ∀ q, s.data.toList.drop (1 + notN r + q) = r.drop (notN r + q) := fun q => by rw [← hr, List.drop_drop, Nat.add_assoc]
  rw [e1, e2, Nat.zero_add]
  split
  · rw [if_neg (by omega)]
    omega
  · rw [if_pos rfl]
theorem impl_unit (s : ByteArray) (hs : s.size ≤ 16777216) (h0 : 1 ≤ s.size) : Ev (fun k => impl_unitOf.f k s) (unitN s.data.toList : Int) := by
  obtain ⟨b, hb, hbt, _⟩ := data_drop (s := s) (i := 0) (by omega)
  rw [List.drop_zero] at hb
  rw [show ((0 : Nat) : Int) = 0 from rfl] at hbt
  unfold impl_unitOf.f
  have hp0 : (0 : Int) < (s.size : Int) := by omega
  have hp1 : (1 : Int) ≤ (s.size : Int) := by omega
  have h63 : bt s 0 = 63 ↔ b = 63 := by rw [hbt]; exact ⟨fun e => UInt8.toNat_inj.1 (by simp; omega), fun e => by rw [e]; rfl⟩
  have h42 : bt s 0 = 42 ↔ b = 42 := by rw [hbt]; exact ⟨fun e => UInt8.toNat_inj.1 (by simp; omega), fun e => by rw [e]; rfl⟩
  have h91 : bt s 0 = 91 ↔ b = 91 := by rw [hbt]; exact ⟨fun e => UInt8.toNat_inj.1 (by simp; omega), fun e => by rw [e]; rfl⟩
  simp only [hp0, if_true, letter_impl, Option.bind_some]
  rw [hb]
  simp only [unitN]
  rw [← hbt]
  cases hpc : pathC (bt s 0) with
  | true =>
    simp only [if_true, true_or]
    refine Ev.succ ?_
    simp only [impl_unitOf.j0, if_true]
    exact Ev.some
  | false =>
    simp only [Bool.false_eq_true, if_false, false_or]
    by_cases e63 : b = 63
    · simp only [h63.2 e63, if_true, e63, true_or]
      refine Ev.succ ?_
      simp only [impl_unitOf.j0, if_true]
      exact Ev.some
    · simp only [show ¬ bt s 0 = 63 from fun e => e63 (h63.1 e), if_false, e63, false_or]
      by_cases e42 : b = 42
      · simp only [h42.2 e42, BEq.rfl, e42, if_true]
        refine Ev.succ ?_
        simp only [impl_unitOf.j0, if_true]
        exact Ev.some
      · have hne : (bt s 0 == 42) = false := by simpa using fun e => e42 (h42.1 e)
        simp only [hne, e42, if_false]
        refine Ev.succ ?_
        simp only [impl_unitOf.j0, Bool.false_eq_true, if_false]
        refine Ev.succ ?_
        simp only [impl_unitOf.j1, hp0, if_true]
        by_cases e91 : b = 91
        · simp only [h91.2 e91, if_true, e91]
          refine Ev.succ ?_
          have hex : (s.extract 1 s.size).data.toList = s.data.toList.drop 1 := by
            rw [extract_ofL, data_ofL, List.take_of_length_le (by simp)]
          simp only [impl_unitOf.j2, hp1, if_true, strings_HasPrefix.f, hex, Option.bind_some, hasPrefix_bang, decide_eq_true_eq]
          have hd1 : s.data.toList.drop 1 = s.data.toList.drop (0 + 1) := rfl
          by_cases hbang : (s.data.toList.drop 1).head? = some 33
          · simp only [hbang, if_true]
            refine Ev.succ ?_
            simp only [impl_unitOf.j3]
            have hsz : 2 ≤ s.size := by
              apply Decidable.byContradiction
              intro hc
              rw [List.drop_eq_nil_of_le (by simp; omega)] at hbang
              cases hbang
            have := impl_cls_l s hs 2 (s.size - 2) 2 (by omega) (by omega)
            refine Ev.cast this ?_
            have hn : 1 = notN (s.data.toList.drop 1) := by unfold notN; rw [if_pos hbang]
            have := clsR_cls s 1 _ rfl hn
            rw [Nat.sub_self, show clsR s 2 0 = clsR s (1 + 1) 0 from rfl, this]
            split <;> rfl
          · simp only [hbang, if_false]
            refine Ev.succ ?_
            simp only [impl_unitOf.j3]
            have := impl_cls_l s hs 1 (s.size - 1) 1 (by omega) (by omega)
            refine Ev.cast this ?_
            have hn : 0 = notN (s.data.toList.drop 1) := by unfold notN; rw [if_neg hbang]
            have := clsR_cls s 0 _ rfl hn
            rw [Nat.sub_self, show clsR s 1 0 = clsR s (1 + 0) 0 from rfl, this]
            split <;> rfl
        · simp only [show ¬ bt s 0 = 91 from fun e => e91 (h91.1 e), if_false, e91]
          exact Ev.some
theorem impl_piece_l (f : Nat) : ∀ (l : List UInt8) (n : Int), l.length < f → l.length ≤ 16777216 → 0 ≤ n → n + l.length ≤ 16777216 → Ev (fun k => impl_pieceOk.l0 k n (ofL l)) (unitsF f l n) := by
  induction f with
  | zero => intro l n h; omega
  | succ f ih =>
    intro l n hf hl hn hb
    refine Ev.succ ?_
    simp only [impl_pieceOk.l0, toList_data, data_ofL, unitsF, inRange_f, Option.bind_some]
    by_cases he : l = []
    · simp only [he, if_true]
      exact Ev.some
    · have hpos : 0 < l.length := List.length_pos_iff.2 he
      simp only [he, if_false]
      have hu := unitN_le l
      have hui := impl_unit (ofL l) (by rw [ofL_size]; exact hl) (by rw [ofL_size]; omega)
      rw [data_ofL] at hui
      refine Ev.bind hui ?_
      by_cases h0 : unitN l = 0
      · simp only [show ((unitN l : Nat) : Int) = 0 by omega, if_true, h0]
        exact Ev.some
      · simp only [show ¬ ((unitN l : Nat) : Int) = 0 by omega, if_false, h0, show (0 : Int) ≤ (unitN l : Int) by omega, if_true, ofL_size, show (unitN l : Int) ≤ (l.length : Int) by omega, Int.toNat_natCast]
        have hw : wrap64 (n + 1) = n + 1 := wrap64_id (by omega) (by omega)
        have hex : (ofL l).extract (unitN l) l.length = ofL (l.drop (unitN l)) := by
          rw [extract_ofL, data_ofL, List.take_of_length_le (by simp)]
        rw [hw, hex]
        exact ih _ _ (by rw [List.length_drop]; omega) (by rw [List.length_drop]; omega) (by omega) (by rw [List.length_drop]; omega)
theorem impl_piece (s : ByteArray) (hs : s.size ≤ 8388608) : Ev (fun k => impl_pieceOk.f k s) (pieceB s) := by
  have h := impl_piece_l (s.size + 1) s.data.toList 0 (by simp) (by simp; omega) (by omega) (by simp; omega)
  rw [ofL_data] at h
  exact h

/-- What the reference's loop over a class answers. -/
def clsS (s : ByteArray) (i j : Nat) : Int := if 1 ≤ j + runN (s.data.toList.drop i) ∧ j + runN (s.data.toList.drop i) ≤ 5 ∧ (s.data.toList.drop (i + runN (s.data.toList.drop i))).head? = some 93 then ((i + runN (s.data.toList.drop i) + 1 : Nat) : Int) else -1
theorem spec_cls_l (s : ByteArray) (hs : s.size ≤ 16777216) (d : Nat) : ∀ (i j : Nat), i + d = s.size → j ≤ i → Ev (fun k => spec_l6Class.l0 k s (i : Int) (j : Int)) (clsS s i j) := by
  induction d with
  | zero =>
    intro i j hi hj
    obtain rfl : i = s.size := by omega
    have hd : s.data.toList.drop s.size = [] := List.drop_eq_nil_of_le (by simp)
    refine Ev.succ ?_
    simp only [spec_l6Class.l0, show ¬ (s.size : Int) < (s.size : Int) by omega, if_false, in_f, Option.bind_some, ge_iff_le, Int.le_refl, if_true]
    refine Ev.cast (r := -1) ?_ ?_
    · cases inB (j : Int) 1 5 <;> simpa using Ev.some
    · unfold clsS
      simp only [hd, show runN [] = 0 from rfl, Nat.add_zero]
      simp
  | succ d ih =>
    intro i j hi hj
    have hlt : i < s.size := by omega
    have h1 : (i : Int) < (s.size : Int) := by omega
    have h2 : (0 : Int) ≤ (i : Int) := by omega
    have h3 := next_i hlt (by omega)
    have h4 : wrap64 ((j : Int) + 1) = ((j + 1 : Nat) : Int) := by rw [wrap64_id (by omega) (by omega)]; omega
    obtain ⟨b, hb, hbt, hg⟩ := data_drop hlt
    have ih' := ih (i + 1) (j + 1) (by omega) (by omega)
    have hr := bt_range s i
    have hstep : ccB b = true → clsS s i j = clsS s (i + 1) (j + 1) := fun hc => by
      unfold clsS
      rw [hb, runN_cons, if_pos hc, show j + (runN (s.data.toList.drop (i + 1)) + 1) = j + 1 + runN (s.data.toList.drop (i + 1)) by omega, show i + (runN (s.data.toList.drop (i + 1)) + 1) = i + 1 + runN (s.data.toList.drop (i + 1)) by omega]
    have hend : ccB b = false → clsS s i j = if 1 ≤ j ∧ j ≤ 5 ∧ bt s (i : Int) = 93 then ((i + 1 : Nat) : Int) else -1 := fun hc => by
      have hr0 : runN (s.data.toList.drop i) = 0 := by rw [hb, runN_cons, if_neg (by simp [hc])]
      unfold clsS
      rw [hr0]
      simp only [Nat.add_zero, head_93 hlt]
    refine Ev.succ ?_
    simp only [spec_l6Class.l0, h1, h2, h3, h4, if_true, small_spec hr, digit_spec hr, Option.bind_some]
    cases hp : smallB (bt s (i : Int)) with
    | true =>
      have hc : ccB b = true := by rw [← cc_impl hbt, hp]; rfl
      simp only [if_true]
      exact Ev.cast ih' (hstep hc).symm
    | false =>
      simp only [Bool.false_eq_true, if_false]
      cases hq : digitB (bt s (i : Int)) with
      | true =>
        have hc : ccB b = true := by rw [← cc_impl hbt, hp, hq]; rfl
        simp only [if_true]
        exact Ev.cast ih' (hstep hc).symm
      | false =>
        have hc : ccB b = false := by rw [← cc_impl hbt, hp, hq]; rfl
        simp only [Bool.false_eq_true, if_false, in_f, Option.bind_some, show ¬ (i : Int) ≥ (s.size : Int) by omega]
        refine Ev.cast (Ev.const (r := if inB (j : Int) 1 5 = true then (if bt s (i : Int) = 93 then ((i + 1 : Nat) : Int) else -1) else -1) (by split <;> (try split) <;> rfl)) ?_
        rw [hend hc]
        unfold inB
        by_cases e1 : 1 ≤ j <;> by_cases e2 : j ≤ 5 <;> by_cases e3 : bt s (i : Int) = 93 <;> simp [e1, e2, e3] <;> omega
theorem clsS_cls (s : ByteArray) (i : Nat) (m : Nat) (r : List UInt8) (hr : s.data.toList.drop (i + 1) = r) (hm : m = notN r) : clsS s (i + 1 + m) 0 = if clsN r = 0 then -1 else ((i + 1 + clsN r : Nat) : Int) := by
  subst hm
  unfold clsS clsN
  have e1 : s.data.toList.drop (i + 1 + notN r) = r.drop (notN r) := by rw [← hr, List.drop_drop]
  have e2 : ∀ q, s.data.toList.drop (i + 1 + notN r + q) = r.drop (notN r + q) := fun q => by rw [← hr, List.drop_drop, Nat.add_assoc]
  rw [e1, e2, Nat.zero_add]
  split
  · rw [if_neg (by omega)]
    omega
  · rw [if_pos rfl]
theorem spec_class (s : ByteArray) (hs : s.size ≤ 16777216) (i : Nat) (hi : i < s.size) : Ev (fun k => spec_l6Class.f k s (i : Int)) (if clsN (s.data.toList.drop (i + 1)) = 0 then -1 else ((i + 1 + clsN (s.data.toList.drop (i + 1)) : Nat) : Int)) := by
  have h3 := next_i hi (by omega)
  unfold spec_l6Class.f
  simp only [h3]
  by_cases hlt : ((i + 1 : Nat) : Int) < (s.size : Int)
  · obtain ⟨b, hb, hbt, hg⟩ := data_drop (s := s) (i := i + 1) (by omega)
    have h4 : wrap64 (((i + 1 : Nat) : Int) + 1) = ((i + 1 + 1 : Nat) : Int) := by rw [wrap64_id (by omega) (by omega)]; omega
    have hbang : bt s ((i + 1 : Nat) : Int) = 33 ↔ (s.data.toList.drop (i + 1)).head? = some 33 := by
      rw [head_at, hg, hbt]
      exact ⟨fun e => by rw [show b = 33 from UInt8.toNat_inj.1 (by simp; omega)], fun e => by rw [Option.some.inj e]; rfl⟩
    simp only [hlt, show (0 : Int) ≤ ((i + 1 : Nat) : Int) by omega, if_true]
    refine Ev.succ ?_
    simp only [spec_l6Class.j0]
    by_cases hq : (s.data.toList.drop (i + 1)).head? = some 33
    · simp only [hbang.2 hq, BEq.rfl, if_true, h4]
      refine Ev.succ ?_
      simp only [spec_l6Class.j1]
      have := spec_cls_l s hs (s.size - (i + 1 + 1)) (i + 1 + 1) 0 (by omega) (by omega)
      refine Ev.cast this ?_
      exact clsS_cls s i 1 _ rfl (by unfold notN; rw [if_pos hq])
    · have hne : (bt s ((i + 1 : Nat) : Int) == 33) = false := by simpa using fun e => hq (hbang.1 (by simpa using e))
      simp only [hne, Bool.false_eq_true, if_false]
      refine Ev.succ ?_
      simp only [spec_l6Class.j1]
      have := spec_cls_l s hs (s.size - (i + 1)) (i + 1) 0 (by omega) (by omega)
      refine Ev.cast this ?_
      exact clsS_cls s i 0 _ rfl (by unfold notN; rw [if_neg hq])
  · have hz : i + 1 = s.size := by omega
    simp only [hlt, if_false]
    refine Ev.succ ?_
    simp only [spec_l6Class.j0, Bool.false_eq_true, if_false]
    refine Ev.succ ?_
    simp only [spec_l6Class.j1]
    have := spec_cls_l s hs 0 (i + 1) 0 (by omega) (by omega)
    refine Ev.cast this ?_
    have hd : s.data.toList.drop (i + 1) = [] := List.drop_eq_nil_of_le (by simp; omega)
    exact clsS_cls s i 0 _ rfl (by rw [hd]; rfl)
theorem spec_piece_l (s : ByteArray) (hs : s.size ≤ 8388608) (f : Nat) : ∀ (i : Nat) (n : Int), i ≤ s.size → s.size - i < f → 0 ≤ n → n + (s.size - i : Nat) ≤ 16777216 → Ev (fun k => spec_l6Piece.l0 k s n (i : Int)) (unitsF f (s.data.toList.drop i) n) := by
  induction f with
  | zero => intro i n h1 h2; omega
  | succ f ih =>
    intro i n h1 h2 hn hb
    refine Ev.succ ?_
    simp only [spec_l6Piece.l0, unitsF, in_f, Option.bind_some]
    by_cases hlt : i < s.size
    · obtain ⟨b, hbd, hbt, hg⟩ := data_drop hlt
      have h3 := next_i hlt (by omega)
      have hw : wrap64 (n + 1) = n + 1 := wrap64_id (by omega) (by omega)
      have h42 : bt s (i : Int) = 42 ↔ b = 42 := by rw [hbt]; exact ⟨fun e => UInt8.toNat_inj.1 (by simp; omega), fun e => by rw [e]; rfl⟩
      have h63 : bt s (i : Int) = 63 ↔ b = 63 := by rw [hbt]; exact ⟨fun e => UInt8.toNat_inj.1 (by simp; omega), fun e => by rw [e]; rfl⟩
      have h91 : bt s (i : Int) = 91 ↔ b = 91 := by rw [hbt]; exact ⟨fun e => UInt8.toNat_inj.1 (by simp; omega), fun e => by rw [e]; rfl⟩
      have one : (s.data.toList.drop i).drop 1 = s.data.toList.drop (i + 1) := by rw [List.drop_drop]
      have ih1 := ih (i + 1) (n + 1) (by omega) (by omega) (by omega) (by omega)
      simp only [show (i : Int) < (s.size : Int) by omega, if_true]
      refine Ev.succ ?_
      simp only [spec_l6Piece.j1, show (i : Int) < (s.size : Int) by omega, show (0 : Int) ≤ (i : Int) by omega, if_true, hw, h3]
      rw [if_neg (show ¬ s.data.toList.drop i = [] by rw [hbd]; simp)]
      by_cases e91 : b = 91
      · have hnp : pathC ((91 : UInt8).toNat : Int) = false := by decide
        subst e91
        have hu : unitN (s.data.toList.drop i) = if clsN (s.data.toList.drop (i + 1)) = 0 then 0 else 1 + clsN (s.data.toList.drop (i + 1)) := by
          rw [hbd]
          simp only [unitN, hnp]
          rw [if_neg (by decide), if_pos trivial]
        simp only [h91.2 rfl, if_true]
        refine Ev.bind (spec_class s (by omega) i hlt) ?_
        by_cases hc : clsN (s.data.toList.drop (i + 1)) = 0
        · simp only [hc, if_true, hu]
          exact Ev.yes (by omega) Ev.some
        · have hle := clsN_le (s.data.toList.drop (i + 1))
          rw [List.length_drop, show s.data.toList.length = s.size by simp] at hle
          rw [hu]
          simp only [hc, if_false, show ¬ 1 + clsN (s.data.toList.drop (i + 1)) = 0 by omega]
          refine Ev.no (by omega) ?_
          rw [List.drop_drop, show i + (1 + clsN (s.data.toList.drop (i + 1))) = i + 1 + clsN (s.data.toList.drop (i + 1)) by omega]
          exact ih _ _ (by omega) (by omega) (by omega) (by omega)
      · simp only [show ¬ bt s (i : Int) = 91 from fun e => e91 (h91.1 e), if_false, letter_spec (bt_range s i), Option.bind_some]
        cases hpc : pathC (bt s (i : Int)) with
        | true =>
          have hu : unitN (s.data.toList.drop i) = 1 := by rw [hbd]; simp only [unitN]; rw [if_pos (.inl (by rw [← hbt]; exact hpc))]
          simp only [if_true, hu, show ¬ 1 = 0 by omega, if_false, one]
          exact ih1
        | false =>
          simp only [Bool.false_eq_true, if_false]
          by_cases e63 : b = 63
          · have hu : unitN (s.data.toList.drop i) = 1 := by rw [hbd]; simp only [unitN]; rw [if_pos (.inr (.inl e63))]
            simp only [h63.2 e63, if_true, hu, show ¬ 1 = 0 by omega, if_false, one]
            exact ih1
          · simp only [show ¬ bt s (i : Int) = 63 from fun e => e63 (h63.1 e), if_false]
            by_cases e42 : b = 42
            · have hu : unitN (s.data.toList.drop i) = 1 := by rw [hbd]; simp only [unitN]; rw [if_pos (.inr (.inr e42))]
              simp only [h42.2 e42, if_true, hu, show ¬ 1 = 0 by omega, if_false, one]
              exact ih1
            · have hu : unitN (s.data.toList.drop i) = 0 := by
                rw [hbd]
                simp only [unitN]
                rw [if_neg (by rw [← hbt, hpc]; simp [e63, e42]), if_neg e91]
              simp only [show ¬ bt s (i : Int) = 42 from fun e => e42 (h42.1 e), if_false, hu, if_true]
              exact Ev.some
    · obtain rfl : i = s.size := by omega
      have hd : s.data.toList.drop s.size = [] := List.drop_eq_nil_of_le (by simp)
      simp only [show ¬ (s.size : Int) < (s.size : Int) by omega, if_false, hd, if_true]
      exact Ev.some
theorem spec_piece (s : ByteArray) (hs : s.size ≤ 8388608) : Ev (fun k => spec_l6Piece.f k s) (pieceB s) := by
  have h := spec_piece_l s hs (s.size + 1) 0 0 (by omega) (by omega) (by omega) (by omega)
  rw [List.drop_zero] at h
  exact h
theorem piece_stars {s : ByteArray} (h : s.toList = ([42, 42] : List UInt8)) : pieceB s = true := by
  rw [toList_data] at h
  unfold pieceB
  have hl : s.size = 2 := by
    have := congrArg List.length h
    simpa using this
  rw [hl, h]
  decide
def globB (s : ByteArray) : Bool := (piecesB s slash).all pieceB && decide (((piecesB s slash).length : Int) ≤ 4)
theorem spec_glob_l (l : List ByteArray) (hl : l.length ≤ 9223372036854775807) (hs : ∀ x ∈ l, x.size ≤ 8388608) (d : Nat) : ∀ i : Nat, i + d = l.length → Ev (fun k => spec_GlobOk.l0 k l (i : Int)) ((l.drop i).all pieceB && decide ((l.length : Int) ≤ 4)) := by
  induction d with
  | zero =>
    intro i hi
    have h1 : ¬ (i : Int) < (l.length : Int) := by omega
    refine Ev.succ ?_
    rw [List.drop_eq_nil_of_le (by omega)]
    simp only [spec_GlobOk.l0, h1, if_false, List.all_nil, Bool.true_and]
    exact Ev.some
  | succ d ih =>
    intro i hi
    have hlt : i < l.length := by omega
    have h1 : (i : Int) < (l.length : Int) := by omega
    have h2 : (0 : Int) ≤ (i : Int) := by omega
    have h3 := next_i hlt hl
    have ih' := ih (i + 1) (by omega)
    refine Ev.succ ?_
    rw [drop_get hlt, List.all_cons]
    simp only [spec_GlobOk.l0, h1, h2, h3, if_true, rdOf_cast _ hlt]
    by_cases hst : l[i].toList = ([42, 42] : List UInt8)
    · simp only [hst, if_true, piece_stars hst, Bool.true_and]
      exact ih'
    · simp only [hst, if_false]
      refine Ev.bind (spec_piece l[i] (hs _ (List.getElem_mem hlt))) ?_
      cases hp : pieceB l[i] with
      | true => simpa using ih'
      | false => simpa using Ev.some
theorem impl_glob_l (l : List ByteArray) (hl : l.length ≤ 9223372036854775807) (hs : ∀ x ∈ l, x.size ≤ 8388608) (d : Nat) : ∀ i : Nat, i + d = l.length → Ev (fun k => impl_GlobOk.l0 k l l (l.length : Int) (i : Int)) ((l.drop i).all pieceB && decide ((l.length : Int) ≤ 4)) := by
  induction d with
  | zero =>
    intro i hi
    have h1 : ¬ (i : Int) < (l.length : Int) := by omega
    refine Ev.succ ?_
    rw [List.drop_eq_nil_of_le (by omega)]
    simp only [impl_GlobOk.l0, h1, if_false, List.all_nil, Bool.true_and]
    exact Ev.some
  | succ d ih =>
    intro i hi
    have hlt : i < l.length := by omega
    have h1 : (i : Int) < (l.length : Int) := by omega
    have h2 : (0 : Int) ≤ (i : Int) := by omega
    have h3 := next_i hlt hl
    have ih' := ih (i + 1) (by omega)
    refine Ev.succ ?_
    rw [drop_get hlt, List.all_cons]
    simp only [impl_GlobOk.l0, h1, h2, h3, if_true, rdOf_cast _ hlt]
    refine Ev.bind (impl_piece l[i] (hs _ (List.getElem_mem hlt))) ?_
    cases hp : pieceB l[i] with
    | true => simpa using ih'
    | false => simpa using Ev.some
theorem slash_small {s : ByteArray} (hs : s.size ≤ 8388608) : (piecesB s slash).length ≤ 9223372036854775807 ∧ ∀ x ∈ piecesB s slash, x.size ≤ 8388608 := by
  have h := pieces_length (s := s) (sep := slash) (Nat.le_refl _)
  exact ⟨by omega, fun x hx => by have := pieces_mem (sep := slash) (by simp [slash]) x hx; omega⟩
theorem spec_glob (s : ByteArray) (hs : s.size ≤ 8388608) : Ev (fun k => spec_GlobOk.f k s) (globB s) := by
  unfold spec_GlobOk.f
  have h := slash_small hs
  refine Ev.bind (spec_split s 47 (by omega)) ?_
  exact spec_glob_l _ h.1 h.2 _ 0 (Nat.zero_add _)
theorem impl_glob (s : ByteArray) (hs : s.size ≤ 8388608) : Ev (fun k => impl_GlobOk.f k s) (globB s) := by
  unfold impl_GlobOk.f
  have h := slash_small hs
  rw [strings_split s 47 (by omega)]
  simp only [Option.bind_some]
  exact impl_glob_l _ h.1 h.2 _ 0 (Nat.zero_add _)
end Go.Proofs.YtpmooegakomnbaaDoor.Pure
