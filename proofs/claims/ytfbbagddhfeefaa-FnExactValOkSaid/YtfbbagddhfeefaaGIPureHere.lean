/- Whether a value is right but for its parts, of the reference and of the program. -/
import Derived.Test.YtfbbagddhfeefaaGIPureVal
import Derived.Test.YtfbbagddhfeefaaGIPureVText
import Derived.Test.YtfbbagddhfeefaaPGIx4
import Derived.Test.YtfbbagddhfeefaaPGIx6
set_option linter.unusedVariables false
set_option linter.unusedSimpArgs false
namespace Go.Proofs.Ytfbbagddhfeefaa.Pure
open Go.RowKit Go.Proofs.Ytfbbagddhfeefaa.PGI Go.Proofs.YtfbbagddhfeefaaW.PrintWords Go.Proofs.YtfbbagddhfeefaaW.PrintLast Go.Proofs.Ytfbbagddhfeefaa.Aux

def blB (a b : ByteArray) : Bool := Op.bytesLess a.toList b.toList
def asc : List ByteArray → Bool
  | [] => true
  | [_] => true
  | x :: y :: r => blB x y && asc (y :: r)
theorem asc_at {l : List ByteArray} {j : Nat} (h : j + 1 < l.length) : asc (l.drop j) = (blB l[j] l[j + 1] && asc (l.drop (j + 1))) := by
  rw [drop_get (show j < l.length by omega), drop_get h, asc]
theorem asc_end {l : List ByteArray} {j : Nat} (h : l.length ≤ j + 1) : asc (l.drop j) = true := by
  by_cases hj : j < l.length
  · rw [drop_get hj, List.drop_eq_nil_of_le h, asc]
  · rw [List.drop_eq_nil_of_le (by omega), asc]
theorem impl_asc_l (l : List ByteArray) (hl : l.length ≤ 9223372036854775807) (d : Nat) : ∀ j : Nat, l.length ≤ j + 1 + d → Ev (fun k => impl_isAscending.l0 k l ((j + 1 : Nat) : Int)) (asc (l.drop j)) := by
  induction d with
  | zero =>
    intro j hj
    refine Ev.succ ?_
    simp only [impl_isAscending.l0, show ¬ ((j + 1 : Nat) : Int) < (l.length : Int) by omega, if_false]
    exact Ev.cast Ev.some (asc_end (by omega)).symm
  | succ d ih =>
    intro j hj
    refine Ev.succ ?_
    by_cases h : j + 1 < l.length
    · have hw : wrap64 (((j + 1 : Nat) : Int) - 1) = (j : Int) := by rw [wrap64_id (by omega) (by omega)]; omega
      simp only [impl_isAscending.l0, show ((j + 1 : Nat) : Int) < (l.length : Int) by omega, hw, show (0 : Int) ≤ ((j + 1 : Nat) : Int) by omega, show (0 : Int) ≤ (j : Int) by omega, show (j : Int) < (l.length : Int) by omega, if_true, rdOf_cast _ h, rdOf_cast _ (show j < l.length by omega), next_i h hl]
      rw [asc_at h, show Op.bytesLess l[j].toList l[j + 1].toList = blB l[j] l[j + 1] from rfl]
      cases blB l[j] l[j + 1] with
      | true => simpa using ih (j + 1) (by omega)
      | false => simpa using Ev.some
    · simp only [impl_isAscending.l0, show ¬ ((j + 1 : Nat) : Int) < (l.length : Int) by omega, if_false]
      exact Ev.cast Ev.some (asc_end (by omega)).symm
theorem impl_asc (l : List ByteArray) (hl : l.length ≤ 9223372036854775807) : Ev (fun k => impl_isAscending.f k l) (asc l) := impl_asc_l l hl l.length 0 (by omega)

theorem impl_none_l (l : List ByteArray) (hl : l.length ≤ 9223372036854775807) (hs : ∀ z ∈ l, z.size ≤ 9223372036854775807) (d : Nat) : ∀ i : Nat, i + d = l.length →
    ∃ r, Ev (fun k => slices_IndexFunc_string_string.l0 k l (l.length : Int) (i : Int)) r ∧ decide (r ≥ 0) = !((l.drop i).all textB) := by
  induction d with
  | zero =>
    intro i hi
    refine ⟨-1, ?_, ?_⟩
    · refine Ev.succ ?_
      simp only [slices_IndexFunc_string_string.l0, show ¬ (i : Int) < (l.length : Int) by omega, if_false]
      exact Ev.some
    · rw [List.drop_eq_nil_of_le (by omega)]; rfl
  | succ d ih =>
    intro i hi
    have hlt : i < l.length := by omega
    have h1 : (i : Int) < (l.length : Int) := by omega
    have h2 : (0 : Int) ≤ (i : Int) := by omega
    have h3 := next_i hlt hl
    obtain ⟨r, hr, hr'⟩ := ih (i + 1) (by omega)
    have ht := impl_text l[i] (hs _ (List.getElem_mem hlt))
    rw [drop_get hlt, List.all_cons]
    cases hq : textB l[i] with
    | true =>
      rw [hq] at ht
      refine ⟨r, ?_, by simpa using hr'⟩
      refine Ev.succ ?_
      simp only [slices_IndexFunc_string_string.l0, h1, h2, h3, if_true, rdOf_cast _ hlt, impl_isNoVText.f]
      refine Ev.bind (Ev.bind ht Ev.some) ?_
      simpa using hr
    | false =>
      rw [hq] at ht
      refine ⟨(i : Int), ?_, by simp⟩
      refine Ev.succ ?_
      simp only [slices_IndexFunc_string_string.l0, h1, h2, h3, if_true, rdOf_cast _ hlt, impl_isNoVText.f]
      refine Ev.bind (Ev.bind ht Ev.some) ?_
      simpa using Ev.some
theorem impl_none (l : List ByteArray) (hl : l.length ≤ 9223372036854775807) (hs : ∀ z ∈ l, z.size ≤ 9223372036854775807) : Ev (fun k => slices_ContainsFunc_string_string.f k l) (!(l.all textB)) := by
  obtain ⟨r, hr, hr'⟩ := impl_none_l l hl hs l.length 0 (by omega)
  unfold slices_ContainsFunc_string_string.f slices_IndexFunc_string_string.f
  refine Ev.bind hr (Ev.cast Ev.some ?_)
  simpa using hr'

def listsB (x : S59) : Bool := decide (x.f3.length = 0) && decide (x.f4.length = 0)
def hereB (x : S59) : Bool :=
  if x.f0 = 0 then listsB x && (decide (x.f1 = 0) && decide (x.f2.size = 0))
  else if x.f0 = 1 then listsB x && (inB x.f1 0 1 && decide (x.f2.size = 0))
  else if x.f0 = 2 then listsB x && (inB x.f1 (-999999) 999999 && decide (x.f2.size = 0))
  else if x.f0 = 3 then listsB x && (decide (x.f1 = 0) && textB x.f2)
  else if x.f0 = 4 then decide (x.f1 = 0) && (decide (x.f2.size = 0) && decide (x.f4.length = 0))
  else if x.f0 = 5 then decide (x.f1 = 0) && (decide (x.f2.size = 0) && (decide (x.f4.length = x.f3.length) && (asc x.f4 && x.f4.all textB)))
  else false
theorem size_nil (s : ByteArray) : s.toList = ([] : List UInt8) ↔ s.size = 0 := by
  rw [toList_data]
  constructor
  · intro h
    have := congrArg List.length h
    simpa using this
  · intro h
    apply List.eq_nil_of_length_eq_zero
    simpa using h
theorem beq_nil (s : ByteArray) : (s.toList == ([] : List UInt8)) = decide (s.size = 0) := by
  rw [Bool.eq_iff_iff, beq_iff_eq, decide_eq_true_iff, size_nil]
theorem len_zero (n : Nat) : ((n : Int) == 0) = decide (n = 0) := by
  rw [Bool.eq_iff_iff, beq_iff_eq, decide_eq_true_iff]
  omega
theorem impl_here (x : S59) (h2 : x.f2.size ≤ 9223372036854775807) (h4 : x.f4.length ≤ 9223372036854775807) (g4 : ∀ z ∈ x.f4, z.size ≤ 9223372036854775807) :
    Ev (fun k => impl_Val_plainOk.f k x.f0 x.f1 x.f2 x.f3 x.f4) (hereB x) := by
  have ht := impl_text x.f2 h2
  have ha := impl_asc x.f4 h4
  have hn := impl_none x.f4 h4 g4
  have hj : ∀ b : Bool, b = listsB x → Ev (fun k => impl_Val_plainOk.j0 k b x.f0 x.f1 x.f2 x.f3 x.f4) (hereB x) := by
    intro b hb
    refine Ev.succ ?_
    simp only [impl_Val_plainOk.j0, hb, beq_nil, len_zero, size_nil, inRange_f, Option.bind_some, hereB]
    by_cases k0 : x.f0 = 0
    · simp only [k0, if_true]
      cases listsB x <;> by_cases e1 : x.f1 = 0 <;> simpa [e1] using Ev.some
    by_cases k1 : x.f0 = 1
    · simp only [k1, if_true, show ¬ (1 : Int) = 0 by omega, if_false]
      cases listsB x <;> cases inB x.f1 0 1 <;> simpa using Ev.some
    by_cases k2 : x.f0 = 2
    · simp only [k2, if_true, show ¬ (2 : Int) = 0 by omega, show ¬ (2 : Int) = 1 by omega, if_false]
      cases listsB x <;> cases inB x.f1 (-999999) 999999 <;> simpa using Ev.some
    by_cases k3 : x.f0 = 3
    · simp only [k3, if_true, show ¬ (3 : Int) = 0 by omega, show ¬ (3 : Int) = 1 by omega, show ¬ (3 : Int) = 2 by omega, if_false]
      cases listsB x
      · simpa using Ev.some
      · by_cases e1 : x.f1 = 0
        · simp only [e1, if_true, decide_true, Bool.true_and]
          exact Ev.bind ht Ev.some
        · simpa [e1] using Ev.some
    by_cases k4 : x.f0 = 4
    · simp only [k4, if_true, show ¬ (4 : Int) = 0 by omega, show ¬ (4 : Int) = 1 by omega, show ¬ (4 : Int) = 2 by omega, show ¬ (4 : Int) = 3 by omega, if_false]
      by_cases e1 : x.f1 = 0 <;> by_cases e2 : x.f2.size = 0 <;> simpa [e1, e2] using Ev.some
    by_cases k5 : x.f0 = 5
    · simp only [k5, if_true, show ¬ (5 : Int) = 0 by omega, show ¬ (5 : Int) = 1 by omega, show ¬ (5 : Int) = 2 by omega, show ¬ (5 : Int) = 3 by omega, show ¬ (5 : Int) = 4 by omega, if_false]
      by_cases e1 : x.f1 = 0
      case neg => simpa [e1] using Ev.some
      by_cases e2 : x.f2.size = 0
      case neg => simpa [e1, e2] using Ev.some
      by_cases e3 : x.f4.length = x.f3.length
      case neg => simpa [e1, e2, e3, show ¬ (x.f4.length : Int) = (x.f3.length : Int) by omega] using Ev.some
      simp only [e1, e2, e3, if_true, decide_true, Bool.true_and]
      refine Ev.bind ha ?_
      cases asc x.f4 with
      | false => simpa using Ev.some
      | true =>
        simp only [if_true, Bool.true_and]
        refine Ev.bind hn (Ev.cast Ev.some ?_)
        simp
    · simp only [k0, k1, k2, k3, k4, k5, if_false]
      exact Ev.some
  unfold impl_Val_plainOk.f
  by_cases e3 : x.f3.length = 0
  · simp only [show (x.f3.length : Int) = 0 by omega, if_true]
    exact hj _ (by rw [len_zero]; simp [listsB, e3])
  · simp only [show ¬ (x.f3.length : Int) = 0 by omega, if_false]
    exact hj _ (by simp [listsB, e3])
/-- What is asked of the keys from place i on. -/
def keysB (x : S59) (i : Nat) : Bool := ((x.f4.drop i).all textB && (if i = 0 then asc x.f4 else asc (x.f4.drop (i - 1)))) && (decide (x.f1 = 0) && decide (x.f4.length = x.f3.length))
theorem spec_keys (x : S59) (h4 : x.f4.length ≤ 9223372036854775807) (g4 : ∀ z ∈ x.f4, z.size ≤ 9223372036854775807) (d : Nat) : ∀ i : Nat, i + d = x.f4.length → Ev (fun k => spec_l2Here.l0 k (i : Int) x.f0 x.f1 x.f2 x.f3 x.f4) (keysB x i) := by
  induction d with
  | zero =>
    intro i hi
    refine Ev.succ ?_
    have hk : keysB x i = (decide (x.f1 = 0) && decide (x.f4.length = x.f3.length)) := by
      unfold keysB
      rw [List.drop_eq_nil_of_le (show x.f4.length ≤ i by omega)]
      by_cases h0 : i = 0
      · have : x.f4 = [] := List.eq_nil_of_length_eq_zero (by omega)
        simp [h0, this, asc]
      · rw [if_neg h0, asc_end (by omega)]
        simp
    rw [hk]
    simp only [spec_l2Here.l0, show ¬ (i : Int) < (x.f4.length : Int) by omega, if_false]
    by_cases e1 : x.f1 = 0
    · simp only [e1, if_true, decide_true, Bool.true_and]
      refine Ev.cast Ev.some ?_
      rw [Bool.eq_iff_iff, beq_iff_eq, decide_eq_true_iff]
      omega
    · simpa [e1] using Ev.some
  | succ d ih =>
    intro i hi
    have hlt : i < x.f4.length := by omega
    have h1 : (i : Int) < (x.f4.length : Int) := by omega
    have h2 : (0 : Int) ≤ (i : Int) := by omega
    have h3 := next_i hlt h4
    have ih' := ih (i + 1) (by omega)
    refine Ev.succ ?_
    simp only [spec_l2Here.l0, h1, h2, h3, if_true, rdOf_cast _ hlt]
    refine Ev.bind (spec_text _ (g4 _ (List.getElem_mem hlt))) ?_
    have hk : keysB x i = (textB x.f4[i] && ((if i = 0 then true else blB (x.f4.getD (i - 1) ByteArray.empty) x.f4[i]) && keysB x (i + 1))) := by
      unfold keysB
      rw [drop_get hlt, List.all_cons, if_neg (show ¬ i + 1 = 0 by omega), show i + 1 - 1 = i by omega]
      by_cases h0 : i = 0
      · subst h0
        simp only [if_true, List.drop_zero, Bool.true_and]
        cases textB x.f4[0] <;> simp
      · rw [if_neg h0, if_neg h0]
        obtain ⟨j, rfl⟩ : ∃ j, i = j + 1 := ⟨i - 1, by omega⟩
        rw [show j + 1 - 1 = j by omega, asc_at hlt, List.getD_eq_getElem?_getD, List.getElem?_eq_getElem (show j < x.f4.length by omega), Option.getD_some]
        cases textB x.f4[j + 1] <;> cases blB x.f4[j] x.f4[j + 1] <;> simp
    rw [hk]
    cases textB x.f4[i] with
    | false => simpa using Ev.some
    | true =>
      simp only [if_true, Bool.true_and]
      by_cases h0 : i = 0
      · simp only [show ¬ (i : Int) > 0 by omega, if_false, h0, if_true, Bool.true_and]
        rw [h0] at ih'
        exact ih'
      · have hw : wrap64 ((i : Int) - 1) = ((i - 1 : Nat) : Int) := by rw [wrap64_id (by omega) (by omega)]; omega
        have hlt' : i - 1 < x.f4.length := by omega
        rw [List.getD_eq_getElem?_getD, List.getElem?_eq_getElem hlt', Option.getD_some]
        simp only [show (i : Int) > 0 by omega, if_true, hw, show (0 : Int) ≤ ((i - 1 : Nat) : Int) by omega, show ((i - 1 : Nat) : Int) < (x.f4.length : Int) by omega, rdOf_cast _ hlt', h0, if_false]
        rw [show Op.bytesLess x.f4[i - 1].toList x.f4[i].toList = blB x.f4[i - 1] x.f4[i] from rfl]
        cases blB x.f4[i - 1] x.f4[i] with
        | true => simpa using ih'
        | false => simpa using Ev.some
end Go.Proofs.Ytfbbagddhfeefaa.Pure
