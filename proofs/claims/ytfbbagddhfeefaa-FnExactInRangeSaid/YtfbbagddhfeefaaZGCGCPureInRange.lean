/- What InRange comes to, of the reference and of the program. -/
import Derived.Test.YtfbbagddhfeefaaZGCGCPureCmpOk
import Derived.Test.YtfbbagddhfeefaaZGCGCPureVerOk
import Derived.Test.YtfbbagddhfeefaaZGCPGCx6
import Derived.Test.YtfbbagddhfeefaaZGCPGCx11
set_option linter.unusedVariables false
set_option linter.unusedSimpArgs false
namespace Go.Proofs.Ytfbbagddhfeefaa.Pure
open Go.RowKit Go.Proofs.Ytfbbagddhfeefaa.PGC Go.Proofs.YtfbbagddhfeefaaW.PrintWords Go.Proofs.YtfbbagddhfeefaaW.PrintLast Go.Proofs.Ytfbbagddhfeefaa.Aux

/-- What the strings in a Cmp ask. -/
def stS (x : S80) : Prop := x.f1.f3.length ≤ 9223372036854775807 ∧ ∀ s ∈ x.f1.f3, s.size ≤ 9223372036854775807

section
variable (a b c : Int) (l : List ByteArray)

def okC (x : S80) : Bool := cmpOkB x.f0 x.f1.f0 x.f1.f1 x.f1.f2 x.f1.f3 a b c l
def preC2 (x : S80) : Bool := decide (x.f1.f3.length > 0) && (decide (x.f1.f0 = a) && (decide (x.f1.f1 = b) && decide (x.f1.f2 = c)))
def takesB (y : List S80) : Bool := y.all (okC a b c l) && (decide (l.length = 0) || y.any (preC2 a b c))

theorem takes_l (y : List S80) (hl : l.length ≤ 9223372036854775807) (hs : ∀ s ∈ l, s.size ≤ 9223372036854775807) (hy : y.length ≤ 9223372036854775807) (hy' : ∀ x ∈ y, stS x) (d : Nat) : ∀ (i : Nat) (t : Bool), i + d = y.length →
    Ev (fun k => impl_takes.l0 k t y (y.length : Int) (i : Int) a b c l) ((y.drop i).all (okC a b c l) && (t || (y.drop i).any (preC2 a b c))) := by
  induction d with
  | zero =>
    intro i t hi
    have h1 : ¬ (i : Int) < (y.length : Int) := by omega
    refine Ev.succ ?_
    rw [List.drop_eq_nil_of_le (by omega)]
    simp only [impl_takes.l0, h1, if_false, List.all_nil, List.any_nil, Bool.true_and, Bool.or_false]
    exact Ev.some
  | succ d ih =>
    intro i t hi
    have hlt : i < y.length := by omega
    have h1 : (i : Int) < (y.length : Int) := by omega
    have h2 : (0 : Int) ≤ (i : Int) := by omega
    have h3 := next_i hlt hy
    have hg : rd_T80 y (i : Int) = y[i] := rdD_cast _ hlt
    have hst := hy' _ (List.getElem_mem hlt)
    refine Ev.succ ?_
    rw [drop_get hlt]
    simp only [impl_takes.l0, h1, h2, h3, if_true, hg, List.all_cons, List.any_cons]
    refine Ev.bind (impl_cmpOk _ _ _ _ _ _ _ _ _ hst.1 hl hst.2 hs) ?_
    rw [show cmpOkB y[i].f0 y[i].f1.f0 y[i].f1.f1 y[i].f1.f2 y[i].f1.f3 a b c l = okC a b c l y[i] from rfl]
    cases okC a b c l y[i] with
    | false =>
      simp only [Bool.false_eq_true, if_false, Bool.false_and]
      exact Ev.some
    | true =>
      simp only [if_true, Bool.true_and]
      cases t with
      | true =>
        simp only [if_true, Bool.true_or]
        simpa using ih (i + 1) true (by omega)
      | false =>
        simp only [Bool.false_eq_true, if_false, Bool.false_or, preC2]
        have ihf := ih (i + 1) false (by omega)
        have iht := ih (i + 1) true (by omega)
        simp only [Bool.false_or, Bool.true_or, preC2] at ihf iht
        by_cases hp : (y[i].f1.f3.length : Int) > 0
        · have hp' : y[i].f1.f3.length > 0 := by omega
          simp only [hp, hp', if_true, decide_true, Bool.true_and]
          by_cases ha : y[i].f1.f0 = a
          · by_cases hb : y[i].f1.f1 = b
            · simp only [ha, hb, if_true, decide_true, Bool.true_and]
              by_cases hc : y[i].f1.f2 = c
              · simpa [hc] using iht
              · have e : (y[i].f1.f2 == c) = false := by simpa using hc
                simp only [e, hc, decide_false, Bool.false_or]
                exact ihf
            · simpa [ha, hb] using ihf
          · simpa [ha] using ihf
        · have hp' : ¬ y[i].f1.f3.length > 0 := by omega
          simpa [hp, hp'] using ihf
theorem impl_takes (y : List S80) (hl : l.length ≤ 9223372036854775807) (hs : ∀ s ∈ l, s.size ≤ 9223372036854775807) (hy : y.length ≤ 9223372036854775807) (hy' : ∀ x ∈ y, stS x) :
    Ev (fun k => impl_takes.f k y a b c l) (takesB a b c l y) := by
  unfold impl_takes.f
  refine Ev.cast (takes_l a b c l y hl hs hy hy' y.length 0 _ (by omega)) ?_
  unfold takesB
  rw [List.drop_zero]
  congr 2
  by_cases h : l.length = 0
  · simp [h]
  · simp only [h, decide_false]
    rw [beq_eq_false_iff_ne]
    omega

def rangeB (r : List (List S80)) : Bool := verB a b c l && r.any (takesB a b c l)

theorem inRange_l (r : List (List S80)) (hl : l.length ≤ 9223372036854775807) (hs : ∀ s ∈ l, s.size ≤ 9223372036854775807) (hr : r.length ≤ 9223372036854775807) (hr' : ∀ y ∈ r, y.length ≤ 9223372036854775807 ∧ ∀ x ∈ y, stS x) (d : Nat) : ∀ i : Nat, i + d = r.length →
    Ev (fun k => impl_InRange.l0 k r (r.length : Int) (i : Int) a b c l) ((r.drop i).any (takesB a b c l)) := by
  induction d with
  | zero =>
    intro i hi
    have h1 : ¬ (i : Int) < (r.length : Int) := by omega
    refine Ev.succ ?_
    rw [List.drop_eq_nil_of_le (by omega)]
    simp only [impl_InRange.l0, h1, if_false, List.any_nil]
    exact Ev.some
  | succ d ih =>
    intro i hi
    have hlt : i < r.length := by omega
    have h1 : (i : Int) < (r.length : Int) := by omega
    have h2 : (0 : Int) ≤ (i : Int) := by omega
    have h3 := next_i hlt hr
    have hg : rd_L8 r (i : Int) = r[i] := rdD_cast _ hlt
    have hst := hr' _ (List.getElem_mem hlt)
    refine Ev.succ ?_
    rw [drop_get hlt]
    simp only [impl_InRange.l0, h1, h2, h3, if_true, hg, List.any_cons]
    refine Ev.bind (impl_takes a b c l _ hl hs hst.1 hst.2) ?_
    cases takesB a b c l r[i] with
    | true =>
      simp only [if_true, Bool.true_or]
      exact Ev.some
    | false =>
      simp only [Bool.false_eq_true, if_false, Bool.false_or]
      exact ih (i + 1) (by omega)
theorem impl_inRange (r : List (List S80)) (hl : l.length ≤ 9223372036854775807) (hs : ∀ s ∈ l, s.size ≤ 9223372036854775807) (hr : r.length ≤ 9223372036854775807) (hr' : ∀ y ∈ r, y.length ≤ 9223372036854775807 ∧ ∀ x ∈ y, stS x) :
    Ev (fun k => impl_InRange.f k r a b c l) (rangeB a b c l r) := by
  unfold impl_InRange.f rangeB
  refine Ev.bind (impl_ver a b c l hl hs) ?_
  cases verB a b c l with
  | true =>
    simp only [if_true, Bool.true_and]
    refine Ev.succ ?_
    simp only [impl_InRange.j0]
    exact inRange_l a b c l r hl hs hr hr' r.length 0 (by omega)
  | false =>
    simp only [Bool.false_eq_true, if_false, Bool.false_and]
    exact Ev.some

theorem same_core (x0 x1 x2 : Int) (x3 : List ByteArray) : spec_l3SameCore.f x0 x1 x2 x3 a b c l = some (decide (x0 = a) && (decide (x1 = b) && decide (x2 = c))) := by
  unfold spec_l3SameCore.f
  by_cases h1 : x0 = a
  · by_cases h2 : x1 = b
    · simp only [h1, h2, if_true, decide_true, Bool.true_and]
      rfl
    · simp [h1, h2]
  · simp [h1]

/-- One list, from its place i on; 'go' is what follows it. -/
theorem spec_list (r : List (List S80)) (hl : l.length ≤ 9223372036854775807) (hs : ∀ s ∈ l, s.size ≤ 9223372036854775807) (j : Nat) (hj : j < r.length) (hr : r.length ≤ 9223372036854775807) (hy : r[j].length ≤ 9223372036854775807) (hy' : ∀ x ∈ r[j], stS x)
    (rest : Bool) (hrest : Ev (fun k => spec_InRange.l0 k r ((j + 1 : Nat) : Int) a b c l) rest) (d : Nat) : ∀ (i : Nat) (all pre : Bool), i + d = r[j].length →
    Ev (fun k => spec_InRange.l1 k r (j : Int) all pre (i : Int) a b c l) (((all && (r[j].drop i).all (okC a b c l)) && (pre || (r[j].drop i).any (preC2 a b c))) || rest) := by
  have h2j : (0 : Int) ≤ (j : Int) := by omega
  have h1j : (j : Int) < (r.length : Int) := by omega
  have hgj : rd_L8 r (j : Int) = r[j] := rdD_cast _ hj
  have h3j := next_i hj hr
  induction d with
  | zero =>
    intro i all pre hi
    have h1 : ¬ (i : Int) < (r[j].length : Int) := by omega
    refine Ev.succ ?_
    rw [List.drop_eq_nil_of_le (by omega)]
    simp only [spec_InRange.l1, h1, h1j, h2j, h3j, hgj, if_true, if_false, List.all_nil, List.any_nil, Bool.and_true, Bool.or_false]
    cases all with
    | false =>
      simp only [Bool.false_eq_true, if_false, Bool.false_and, Bool.false_or]
      exact hrest
    | true =>
      cases pre with
      | false =>
        simp only [Bool.false_eq_true, if_true, if_false, Bool.and_false, Bool.false_or]
        exact hrest
      | true =>
        simp only [if_true, Bool.and_true, Bool.true_or]
        exact Ev.some
  | succ d ih =>
    intro i all pre hi
    have hlt : i < r[j].length := by omega
    have h1 : (i : Int) < (r[j].length : Int) := by omega
    have h2 : (0 : Int) ≤ (i : Int) := by omega
    have h3 := next_i hlt hy
    have hg : rd_T80 r[j] (i : Int) = r[j][i] := rdD_cast _ hlt
    have hst := hy' _ (List.getElem_mem hlt)
    refine Ev.succ ?_
    rw [drop_get hlt]
    simp only [spec_InRange.l1, h1, h2, h3, h1j, h2j, hgj, hg, if_true, List.all_cons, List.any_cons, same_core, Option.bind_some]
    have hp : ((r[j][i].f1.f3.length : Int) > 0) = (r[j][i].f1.f3.length > 0) := by simp
    have hpre : preC2 a b c r[j][i] = (decide (r[j][i].f1.f3.length > 0) && (decide (r[j][i].f1.f0 = a) && (decide (r[j][i].f1.f1 = b) && decide (r[j][i].f1.f2 = c)))) := rfl
    cases all with
    | true =>
      simp only [if_true, Bool.true_and]
      refine Ev.bind (spec_cmpOk _ _ _ _ _ _ _ _ _ hst.1 hl hst.2 hs) ?_
      rw [show cmpOkB r[j][i].f0 r[j][i].f1.f0 r[j][i].f1.f1 r[j][i].f1.f2 r[j][i].f1.f3 a b c l = okC a b c l r[j][i] from rfl]
      cases pre with
      | true =>
        simp only [if_true, Bool.true_or]
        refine Ev.cast (ih (i + 1) _ true (by omega)) ?_
        simp
      | false =>
        simp only [Bool.false_eq_true, if_false, Bool.false_or, hpre]
        by_cases h0 : r[j][i].f1.f3.length > 0
        · simp only [hp, h0, if_true, decide_true, Bool.true_and]
          exact ih (i + 1) _ _ (by omega)
        · simp only [hp, h0, if_false, decide_false, Bool.false_and]
          exact ih (i + 1) _ _ (by omega)
    | false =>
      simp only [Bool.false_eq_true, if_false, Bool.false_and, Bool.false_or]
      have ih' : ∀ pre : Bool, Ev (fun k => spec_InRange.l1 k r (j : Int) false pre ((i + 1 : Nat) : Int) a b c l) rest := fun pre => by simpa using ih (i + 1) false pre (by omega)
      cases pre with
      | true =>
        simp only [if_true]
        exact ih' true
      | false =>
        simp only [Bool.false_eq_true, if_false]
        by_cases h0 : r[j][i].f1.f3.length > 0
        · simp only [hp, h0, if_true]
          exact ih' _
        · simp only [hp, h0, if_false]
          exact ih' _

theorem spec_inRange_l (r : List (List S80)) (hl : l.length ≤ 9223372036854775807) (hs : ∀ s ∈ l, s.size ≤ 9223372036854775807) (hr : r.length ≤ 9223372036854775807) (hr' : ∀ y ∈ r, y.length ≤ 9223372036854775807 ∧ ∀ x ∈ y, stS x) (d : Nat) : ∀ i : Nat, i + d = r.length →
    Ev (fun k => spec_InRange.l0 k r (i : Int) a b c l) (verB a b c l && (r.drop i).any (takesB a b c l)) := by
  induction d with
  | zero =>
    intro i hi
    have h1 : ¬ (i : Int) < (r.length : Int) := by omega
    refine Ev.succ ?_
    rw [List.drop_eq_nil_of_le (by omega)]
    simp only [spec_InRange.l0, h1, if_false, List.any_nil, Bool.and_false]
    exact Ev.some
  | succ d ih =>
    intro i hi
    have hlt : i < r.length := by omega
    have h1 : (i : Int) < (r.length : Int) := by omega
    have hst := hr' _ (List.getElem_mem hlt)
    refine Ev.succ ?_
    rw [drop_get hlt]
    simp only [spec_InRange.l0, h1, if_true]
    refine Ev.succ ?_
    simp only [spec_InRange.j1]
    refine Ev.bind (spec_ver a b c l hl hs) ?_
    refine Ev.cast (spec_list a b c l r hl hs i hlt hr hst.1 hst.2 _ (ih (i + 1) (by omega)) r[i].length 0 _ _ (by omega)) ?_
    simp only [List.any_cons, takesB, List.drop_zero]
    rw [show ((l.length : Int) == 0) = decide (l.length = 0) by
      by_cases h : l.length = 0
      · simp [h]
      · simp only [h, decide_false]; rw [beq_eq_false_iff_ne]; omega]
    cases verB a b c l <;> simp
theorem spec_inRange (r : List (List S80)) (hl : l.length ≤ 9223372036854775807) (hs : ∀ s ∈ l, s.size ≤ 9223372036854775807) (hr : r.length ≤ 9223372036854775807) (hr' : ∀ y ∈ r, y.length ≤ 9223372036854775807 ∧ ∀ x ∈ y, stS x) :
    Ev (fun k => spec_InRange.f k r a b c l) (rangeB a b c l r) := spec_inRange_l a b c l r hl hs hr hr' r.length 0 (by omega)
end
end Go.Proofs.Ytfbbagddhfeefaa.Pure
