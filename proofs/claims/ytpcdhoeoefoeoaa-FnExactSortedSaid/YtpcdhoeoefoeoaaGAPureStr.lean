/- What the laws' helpers over slices of strings come to: their sizes, copies and comparisons. -/
import Derived.Test.YtpcdhoeoefoeoaaAux
import Derived.Test.YtpcdhoeoefoeoaaPGAx0
import Derived.Test.YtpcdhoeoefoeoaaPGAx1
import Derived.Test.YtpcdhoeoefoeoaaPGAx2
set_option linter.unusedVariables false
set_option linter.unusedSimpArgs false
namespace Go.Proofs.Ytpcdhoeoefoeoaa.Pure
open Go.RowKit Go.Proofs.Ytpcdhoeoefoeoaa.PGA Go.Proofs.YtpcdhoeoefoeoaaW.PrintWords Go.Proofs.YtpcdhoeoefoeoaaW.PrintLast Go.Proofs.Ytpcdhoeoefoeoaa.Aux

theorem szStringS_l (l : List ByteArray) (hl : l.length ≤ 9223372036854775807) (hs : ∀ x ∈ l, x.size ≤ 9223372036854775807) (d : Nat) : ∀ (i : Nat) (a : Int), i + d = l.length → 0 ≤ a → a ≤ 9223372036854775807 →
    Ev (fun k => laws_szStringS.l0 k l a (i : Int)) (left (szT (l.drop i)) a) := by
  induction d with
  | zero =>
    intro i a hi h0 ha
    have h1 : ¬ (i : Int) < (l.length : Int) := by omega
    refine Ev.succ ?_
    rw [List.drop_eq_nil_of_le (by omega), left_pos (by simpa [szT] using h0)]
    simp only [laws_szStringS.l0, h1, if_false, szT, Int.sub_zero]
    exact Ev.some
  | succ d ih =>
    intro i a hi h0 ha
    have hlt : i < l.length := by omega
    have h1 : (i : Int) < (l.length : Int) := by omega
    have h2 : (0 : Int) ≤ (i : Int) := by omega
    have h3 := next_i hlt hl
    have hx := hs _ (List.getElem_mem hlt)
    have h4 : wrap64 (a - (l[i].size : Int)) = a - (l[i].size : Int) := wrap64_id (by omega) (by omega)
    have hn := szT_nonneg (l.drop (i + 1))
    refine Ev.succ ?_
    rw [drop_get hlt]
    simp only [laws_szStringS.l0, h1, h2, h3, if_true, rdOf_cast _ hlt, h4, szT]
    by_cases h5 : a - (l[i].size : Int) < 0
    · simp only [h5, if_true]
      rw [left_not (by omega)]
      exact Ev.some
    · simp only [h5, if_false]
      refine Ev.cast (ih (i + 1) (a - (l[i].size : Int)) (by omega) (by omega) (by omega)) ?_
      unfold left
      split <;> split <;> omega

theorem szStringS (l : List ByteArray) (a : Int) (hl : l.length ≤ 9223372036854775807) (hs : ∀ x ∈ l, x.size ≤ 9223372036854775807) (h0 : 0 ≤ a) (ha : a ≤ 9223372036854775807) : Ev (fun k => laws_szStringS.f k l a) (left (szL l) a) := by
  unfold laws_szStringS.f
  have hn := szT_nonneg l
  rw [wrap64_id (by omega) (by omega)]
  by_cases h : a - (l.length : Int) < 0
  · simp only [h, if_true]
    rw [left_not (by unfold szL; omega)]
    exact Ev.some
  · simp only [h, if_false]
    refine Ev.succ ?_
    simp only [laws_szStringS.j0]
    refine Ev.cast (szStringS_l l hl hs l.length 0 (a - (l.length : Int)) (by omega) (by omega) (by omega)) ?_
    unfold left szL
    rw [List.drop_zero]
    split <;> split <;> omega
theorem toStringS_l (l : List ByteArray) (hl : l.length ≤ 9223372036854775807) (d : Nat) : ∀ (i : Nat) (x : List ByteArray), i + d = l.length → x.length = l.length → x.take i = l.take i →
    Ev (fun k => laws_toStringS.l0 k l x (i : Int)) l := by
  induction d with
  | zero =>
    intro i x hi hx he
    have h1 : ¬ (i : Int) < (l.length : Int) := by omega
    have e : x = l := by rwa [List.take_of_length_le (by omega), List.take_of_length_le (by omega)] at he
    refine Ev.succ ?_
    simp only [laws_toStringS.l0, h1, if_false, e]
    exact Ev.some
  | succ d ih =>
    intro i x hi hx he
    have hlt : i < l.length := by omega
    have h1 : (i : Int) < (l.length : Int) := by omega
    have h1x : (i : Int) < (x.length : Int) := by omega
    have h2 : (0 : Int) ≤ (i : Int) := by omega
    have h3 := next_i hlt hl
    refine Ev.succ ?_
    simp only [laws_toStringS.l0, h1, h1x, h2, h3, if_true, Int.toNat_natCast, rdOf_cast _ hlt]
    exact ih (i + 1) _ (by omega) (by simpa using hx) (take_set_step (by omega) hlt he)

theorem toStringS (l : List ByteArray) (hl : l.length ≤ 17592186044416) : Ev (fun k => laws_toStringS.f k l) l := by
  unfold laws_toStringS.f
  simp only [show (0 : Int) ≤ (l.length : Int) by omega, show (l.length : Int).toNat ≤ 17592186044416 by omega, if_true]
  exact toStringS_l l (by omega) l.length 0 _ (by omega) (by simp) (by simp)
theorem eqStringS_l (a b : List ByteArray) (hl : a.length ≤ 9223372036854775807) (hab : a.length = b.length) (d : Nat) : ∀ i : Nat, i + d = a.length →
    Ev (fun k => laws_eqStringS.l0 k a b (i : Int)) (decide (a.drop i = b.drop i)) := by
  induction d with
  | zero =>
    intro i hi
    have h1 : ¬ (i : Int) < (a.length : Int) := by omega
    refine Ev.succ ?_
    rw [List.drop_eq_nil_of_le (by omega), List.drop_eq_nil_of_le (by omega)]
    simp only [laws_eqStringS.l0, h1, if_false, decide_true]
    exact Ev.some
  | succ d ih =>
    intro i hi
    have hlt : i < a.length := by omega
    have hlb : i < b.length := by omega
    have h1 : (i : Int) < (a.length : Int) := by omega
    have h1b : (i : Int) < (b.length : Int) := by omega
    have h2 : (0 : Int) ≤ (i : Int) := by omega
    have h3 := next_i hlt hl
    refine Ev.succ ?_
    rw [drop_get hlt, drop_get hlb]
    simp only [laws_eqStringS.l0, h1, h1b, h2, h3, if_true, rdOf_cast _ hlt, rdOf_cast _ hlb, toList_inj]
    by_cases h : a[i] = b[i]
    · simp only [h, if_true, List.cons.injEq, true_and]
      exact ih (i + 1) (by omega)
    · simp only [h, if_false, List.cons.injEq, false_and, decide_false]
      exact Ev.some

theorem eqStringS (a b : List ByteArray) (hl : a.length ≤ 9223372036854775807) : Ev (fun k => laws_eqStringS.f k a b) (decide (a = b)) := by
  unfold laws_eqStringS.f
  by_cases h : (a.length : Int) = (b.length : Int)
  · simp only [h, if_true]
    refine Ev.succ ?_
    simp only [laws_eqStringS.j0]
    exact eqStringS_l a b hl (by omega) a.length 0 (by omega)
  · simp only [h, if_false]
    have : ¬ a = b := fun e => h (by rw [e])
    simp only [this, decide_false]
    exact Ev.some
end Go.Proofs.Ytpcdhoeoefoeoaa.Pure
