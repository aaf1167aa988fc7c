/- What the laws' helpers over values of the type Need come to. -/
import Derived.Test.YtfbbagddhfeefaaGAPureStr
import Derived.Test.YtfbbagddhfeefaaOGA
import Derived.Test.YtfbbagddhfeefaaPGAx3
import Derived.Test.YtfbbagddhfeefaaPGAx4
import Derived.Test.YtfbbagddhfeefaaPGAx5
import Derived.Test.YtfbbagddhfeefaaPGAx6
set_option linter.unusedVariables false
set_option linter.unusedSimpArgs false
namespace Go.Proofs.Ytfbbagddhfeefaa.Pure
open Go.RowKit Go.Proofs.Ytfbbagddhfeefaa.PGA Go.Proofs.YtfbbagddhfeefaaW.PrintWords Go.Proofs.YtfbbagddhfeefaaW.PrintLast Go.Proofs.Ytfbbagddhfeefaa.Aux

def needNeed (x : S197) : Int := (x.f0.size : Int) + (x.f1.size : Int)
theorem needNeed_nonneg (x : S197) : 0 ≤ needNeed x := by
  unfold needNeed; omega
def needNeedS : List S197 → Int
  | [] => 0
  | x :: r => needNeed x + needNeedS r
theorem needNeedS_nonneg : ∀ l : List S197, 0 ≤ needNeedS l
  | [] => by simp [needNeedS]
  | x :: r => by have := needNeed_nonneg x; have := needNeedS_nonneg r; simp only [needNeedS]; omega
theorem needNeed_mem : ∀ {l : List S197} {x : S197}, x ∈ l → needNeed x ≤ needNeedS l
  | y :: r, x, h => by
    have h1 := needNeed_nonneg y
    have h2 := needNeedS_nonneg r
    simp only [needNeedS]
    rcases List.mem_cons.1 h with e | h
    · rw [e]; omega
    · have := needNeed_mem h; omega
theorem szNeed (x : S197) (a : Int) (ho : ok197 x) (h0 : 0 ≤ a) (ha : a ≤ 9223372036854775807) : Ev (fun k => laws_szNeed.f x.f0 x.f1 a) (left (needNeed x) a) := by
  obtain ⟨o0, o1⟩ := ho
  unfold laws_szNeed.f needNeed
  have o0' := o0; unfold maxLen at o0'
  have o1' := o1; unfold maxLen at o1'
  skip
  have hw0 : wrap64 (a - (x.f0.size : Int)) = a - (x.f0.size : Int) := wrap64_id (by omega) (by omega)
  simp only [hw0]
  by_cases h0 : a - (x.f0.size : Int) < 0
  · simp only [h0, if_true]
    exact Ev.cast Ev.some (left_not (by omega)).symm
  simp only [h0, if_false]
  skip
  have hw1 : wrap64 ((a - (x.f0.size : Int)) - (x.f1.size : Int)) = (a - (x.f0.size : Int)) - (x.f1.size : Int) := wrap64_id (by omega) (by omega)
  simp only [hw1]
  by_cases h1 : (a - (x.f0.size : Int)) - (x.f1.size : Int) < 0
  · simp only [h1, if_true]
    exact Ev.cast Ev.some (left_not (by omega)).symm
  simp only [h1, if_false]
  skip
  refine Ev.cast Ev.some ?_
  first | rfl | (rw [left_pos (by omega)]; omega)
theorem szNeedS_l (l : List S197) (hl : l.length ≤ 9223372036854775807) (ho : ∀ x ∈ l, ok197 x) (d : Nat) : ∀ (i : Nat) (a : Int), i + d = l.length → 0 ≤ a → a ≤ 9223372036854775807 →
    Ev (fun k => laws_szNeedS.l0 k l a (i : Int)) (left (needNeedS (l.drop i)) a) := by
  induction d with
  | zero =>
    intro i a hi h0 ha
    have h1 : ¬ (i : Int) < (l.length : Int) := by omega
    refine Ev.succ ?_
    rw [List.drop_eq_nil_of_le (by omega), left_pos (by simpa [needNeedS] using h0)]
    simp only [laws_szNeedS.l0, h1, if_false, needNeedS, Int.sub_zero]
    exact Ev.some
  | succ d ih =>
    intro i a hi h0 ha
    have hlt : i < l.length := by omega
    have h1 : (i : Int) < (l.length : Int) := by omega
    have h2 : (0 : Int) ≤ (i : Int) := by omega
    have h3 := next_i hlt hl
    have hn := needNeedS_nonneg (l.drop (i + 1))
    have hn0 := needNeed_nonneg l[i]
    have hg : rd_T197 l (i : Int) = l[i] := rdD_cast _ hlt
    refine Ev.succ ?_
    rw [drop_get hlt]
    simp only [laws_szNeedS.l0, h1, h2, h3, if_true, hg, needNeedS]
    refine Ev.bind (szNeed l[i] a (ho _ (List.getElem_mem hlt)) h0 ha) ?_
    by_cases h5 : needNeed l[i] ≤ a
    · rw [left_pos h5]
      simp only [show ¬ a - needNeed l[i] < 0 by omega, if_false]
      refine Ev.cast (ih (i + 1) (a - needNeed l[i]) (by omega) (by omega) (by omega)) ?_
      unfold left
      split <;> split <;> omega
    · rw [left_not h5]
      exact Ev.cast Ev.some (left_not (by omega)).symm
theorem szNeedS (l : List S197) (a : Int) (ho : l.length ≤ maxLen ∧ ∀ x ∈ l, ok197 x) (h0 : 0 ≤ a) (ha : a ≤ 9223372036854775807) : Ev (fun k => laws_szNeedS.f k l a) (left ((l.length : Int) + needNeedS l) a) := by
  obtain ⟨hl, ho⟩ := ho
  unfold maxLen at hl
  unfold laws_szNeedS.f
  have hn := needNeedS_nonneg l
  rw [wrap64_id (by omega) (by omega)]
  by_cases h : a - (l.length : Int) < 0
  · simp only [h, if_true]
    rw [left_not (by omega)]
    exact Ev.some
  · simp only [h, if_false]
    refine Ev.succ ?_
    simp only [laws_szNeedS.j0]
    refine Ev.cast (szNeedS_l l (by omega) ho l.length 0 (a - (l.length : Int)) (by omega) (by omega) (by omega)) ?_
    rw [List.drop_zero]
    unfold left
    split <;> split <;> omega
def convNeed (x : S197) : S160 := ⟨x.f0, x.f1⟩
theorem toNeed (x : S197) (hn : needNeed x ≤ 1048576) : Ev (fun k => laws_toNeed.f x.f0 x.f1) ((convNeed x).f0, (convNeed x).f1) := by
  unfold needNeed at hn
  unfold laws_toNeed.f
  skip
  exact Ev.some
theorem toNeedS_l (l : List S197) (hl : l.length ≤ 9223372036854775807) (hn : ∀ x ∈ l, needNeed x ≤ 1048576) (d : Nat) : ∀ (i : Nat) (x : List S160), i + d = l.length → x.length = l.length → x.take i = (l.map convNeed).take i →
    Ev (fun k => laws_toNeedS.l0 k l x (i : Int)) (l.map convNeed) := by
  induction d with
  | zero =>
    intro i x hi hx he
    have h1 : ¬ (i : Int) < (l.length : Int) := by omega
    have e : x = l.map convNeed := by rwa [List.take_of_length_le (by omega), List.take_of_length_le (by simp; omega)] at he
    refine Ev.succ ?_
    simp only [laws_toNeedS.l0, h1, if_false, e]
    exact Ev.some
  | succ d ih =>
    intro i x hi hx he
    have hlt : i < l.length := by omega
    have h1 : (i : Int) < (l.length : Int) := by omega
    have h1x : (i : Int) < (x.length : Int) := by omega
    have h2 : (0 : Int) ≤ (i : Int) := by omega
    have h3 := next_i hlt hl
    have hg : rd_T197 l (i : Int) = l[i] := rdD_cast _ hlt
    have hm : i < (l.map convNeed).length := by simpa using hlt
    have hv : (l.map convNeed)[i] = convNeed l[i] := by simp
    refine Ev.succ ?_
    simp only [laws_toNeedS.l0, h1, h2, h3, if_true, hg]
    refine Ev.bind (toNeed l[i] (hn _ (List.getElem_mem hlt))) ?_
    simp only [h1x, if_true, Int.toNat_natCast]
    refine ih (i + 1) _ (by omega) (by simpa using hx) ?_
    have := take_set_step (l := x) (m := l.map convNeed) (by omega) hm he
    rw [hv] at this
    exact this
theorem toNeedS (l : List S197) (hn : (l.length : Int) + needNeedS l ≤ 1048576) : Ev (fun k => laws_toNeedS.f k l) (l.map convNeed) := by
  have h0 := needNeedS_nonneg l
  unfold laws_toNeedS.f
  simp only [show (0 : Int) ≤ (l.length : Int) by omega, if_true]
  refine Ev.cond (fun _ => ?_) (fun hq => absurd (by omega) hq)
  exact toNeedS_l l (by omega) (fun x hx => by have := needNeed_mem hx; omega) l.length 0 _ (by omega) (by simp) (by simp)
/-- Its slices are no longer than a number of Go's tells. -/
def fitNeed (y : S160) : Prop := True
theorem fit_convNeed (x : S197) (hn : needNeed x ≤ 1048576) : fitNeed (convNeed x) := by
  unfold needNeed at hn
  trivial
theorem eqNeed (y : S160) (hf : fitNeed y) : Ev (fun k => laws_eqNeed.f y.f0 y.f1 y.f0 y.f1) true := by
  unfold laws_eqNeed.f
  skip
  skip
  first | simp only [if_true] | skip
  skip
  first | simp only [if_true] | skip
  skip
  first | simp only [if_true] | skip
  exact Ev.some
theorem eqNeedS_l (l : List S160) (hl : l.length ≤ 9223372036854775807) (hf : ∀ z ∈ l, fitNeed z) (d : Nat) : ∀ i : Nat, i + d = l.length → Ev (fun k => laws_eqNeedS.l0 k l l (i : Int)) true := by
  induction d with
  | zero =>
    intro i hi
    have h1 : ¬ (i : Int) < (l.length : Int) := by omega
    refine Ev.succ ?_
    simp only [laws_eqNeedS.l0, h1, if_false]
    exact Ev.some
  | succ d ih =>
    intro i hi
    have hlt : i < l.length := by omega
    have h1 : (i : Int) < (l.length : Int) := by omega
    have h2 : (0 : Int) ≤ (i : Int) := by omega
    have h3 := next_i hlt hl
    have hg : rd_T160 l (i : Int) = l[i] := rdD_cast _ hlt
    refine Ev.succ ?_
    simp only [laws_eqNeedS.l0, h1, h2, h3, if_true, hg]
    first | (refine Ev.succ (g := fun k => laws_eqNeedS.j0 k _ _) ?_; simp only [laws_eqNeedS.j0]) | skip
    first | simp only [h1, h2, h3, if_true, hg] | skip
    refine Ev.bind (eqNeed l[i] (hf _ (List.getElem_mem hlt))) ?_
    simp only [if_true]
    exact ih (i + 1) (by omega)
theorem eqNeedS (l : List S160) (hf : l.length ≤ 9223372036854775807 ∧ ∀ z ∈ l, fitNeed z) : Ev (fun k => laws_eqNeedS.f k l l) true := by
  unfold laws_eqNeedS.f
  simp only [if_true]
  refine Ev.succ ?_
  simp only [laws_eqNeedS.j0]
  exact eqNeedS_l l hf.1 hf.2 l.length 0 (by omega)
theorem fit_convNeedS (l : List S197) (hn : (l.length : Int) + needNeedS l ≤ 1048576) : (l.map convNeed).length ≤ 9223372036854775807 ∧ ∀ z ∈ l.map convNeed, fitNeed z := by
  have h0 := needNeedS_nonneg l
  refine ⟨by simp only [List.length_map]; omega, fun z hz => ?_⟩
  obtain ⟨u, hu, rfl⟩ := List.mem_map.1 hz
  exact fit_convNeed u (by have := needNeed_mem hu; omega)
end Go.Proofs.Ytfbbagddhfeefaa.Pure
