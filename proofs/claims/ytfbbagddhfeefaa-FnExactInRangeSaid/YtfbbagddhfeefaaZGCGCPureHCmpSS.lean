/- What the laws' helpers over lists of lists of Cmps come to. -/
import Derived.Test.YtfbbagddhfeefaaZGCGCPureHCmp
import Derived.Test.YtfbbagddhfeefaaZGCPGCx2
import Derived.Test.YtfbbagddhfeefaaZGCPGCx7
import Derived.Test.YtfbbagddhfeefaaZGCPGCx12
set_option linter.unusedVariables false
set_option linter.unusedSimpArgs false
namespace Go.Proofs.Ytfbbagddhfeefaa.Pure
open Go.RowKit Go.Proofs.Ytfbbagddhfeefaa.PGC Go.Proofs.YtfbbagddhfeefaaW.PrintWords Go.Proofs.YtfbbagddhfeefaaW.PrintLast Go.Proofs.Ytfbbagddhfeefaa.Aux

def needCmpSS : List (List S76) → Int
  | [] => 0
  | x :: r => ((x.length : Int) + needCmpS x) + needCmpSS r
theorem needCmpSS_nonneg : ∀ l : List (List S76), 0 ≤ needCmpSS l
  | [] => by simp [needCmpSS]
  | x :: r => by have := needCmpS_nonneg x; have := needCmpSS_nonneg r; simp only [needCmpSS]; omega
theorem needCmpSS_mem : ∀ {l : List (List S76)} {x : List S76}, x ∈ l → (x.length : Int) + needCmpS x ≤ needCmpSS l
  | y :: r, x, h => by
    have h1 := needCmpS_nonneg y
    have h2 := needCmpSS_nonneg r
    simp only [needCmpSS]
    rcases List.mem_cons.1 h with e | h
    · rw [e]; omega
    · have := needCmpSS_mem h; omega
theorem szCmpSS_l (l : List (List S76)) (hl : l.length ≤ 9223372036854775807) (ho : ∀ y ∈ l, (y.length ≤ maxLen ∧ ∀ x ∈ y, ok76 x)) (d : Nat) : ∀ (i : Nat) (a : Int), i + d = l.length → 0 ≤ a → a ≤ 9223372036854775807 →
    Ev (fun k => laws_szCmpSS.l0 k l a (i : Int)) (left (needCmpSS (l.drop i)) a) := by
  induction d with
  | zero =>
    intro i a hi h0 ha
    have h1 : ¬ (i : Int) < (l.length : Int) := by omega
    refine Ev.succ ?_
    rw [List.drop_eq_nil_of_le (by omega), left_pos (by simpa [needCmpSS] using h0)]
    simp only [laws_szCmpSS.l0, h1, if_false, needCmpSS, Int.sub_zero]
    exact Ev.some
  | succ d ih =>
    intro i a hi h0 ha
    have hlt : i < l.length := by omega
    have h1 : (i : Int) < (l.length : Int) := by omega
    have h2 : (0 : Int) ≤ (i : Int) := by omega
    have h3 := next_i hlt hl
    have hn := needCmpSS_nonneg (l.drop (i + 1))
    have hn0 := needCmpS_nonneg l[i]
    have hg : rd_L5 l (i : Int) = l[i] := rdD_cast _ hlt
    refine Ev.succ ?_
    rw [drop_get hlt]
    simp only [laws_szCmpSS.l0, h1, h2, h3, if_true, hg, needCmpSS]
    refine Ev.bind (szCmpS l[i] a (ho _ (List.getElem_mem hlt)) h0 ha) ?_
    by_cases h5 : (l[i].length : Int) + needCmpS l[i] ≤ a
    · rw [left_pos h5]
      simp only [show ¬ a - ((l[i].length : Int) + needCmpS l[i]) < 0 by omega, if_false]
      refine Ev.cast (ih (i + 1) (a - ((l[i].length : Int) + needCmpS l[i])) (by omega) (by omega) (by omega)) ?_
      unfold left
      split <;> split <;> omega
    · rw [left_not h5]
      exact Ev.cast Ev.some (left_not (by omega)).symm
theorem szCmpSS (l : List (List S76)) (a : Int) (ho : l.length ≤ maxLen ∧ ∀ y ∈ l, (y.length ≤ maxLen ∧ ∀ x ∈ y, ok76 x)) (h0 : 0 ≤ a) (ha : a ≤ 9223372036854775807) : Ev (fun k => laws_szCmpSS.f k l a) (left ((l.length : Int) + needCmpSS l) a) := by
  obtain ⟨hl, ho⟩ := ho
  unfold maxLen at hl
  unfold laws_szCmpSS.f
  have hn := needCmpSS_nonneg l
  rw [wrap64_id (by omega) (by omega)]
  by_cases h : a - (l.length : Int) < 0
  · simp only [h, if_true]
    rw [left_not (by omega)]
    exact Ev.some
  · simp only [h, if_false]
    refine Ev.succ ?_
    simp only [laws_szCmpSS.j0]
    refine Ev.cast (szCmpSS_l l (by omega) ho l.length 0 (a - (l.length : Int)) (by omega) (by omega) (by omega)) ?_
    rw [List.drop_zero]
    unfold left
    split <;> split <;> omega
def convCmpSS (l : List (List S76)) : List (List S80) := l.map (fun y => y.map convCmp)
theorem toCmpSS_l (l : List (List S76)) (hl : l.length ≤ 9223372036854775807) (hn : ∀ x ∈ l, (x.length : Int) + needCmpS x ≤ 1048576) (d : Nat) : ∀ (i : Nat) (x : List (List S80)), i + d = l.length → x.length = l.length → x.take i = (convCmpSS l).take i →
    Ev (fun k => laws_toCmpSS.l0 k l x (i : Int)) (convCmpSS l) := by
  induction d with
  | zero =>
    intro i x hi hx he
    have h1 : ¬ (i : Int) < (l.length : Int) := by omega
    have e : x = convCmpSS l := by rwa [List.take_of_length_le (by omega), List.take_of_length_le (by simp [convCmpSS]; omega)] at he
    refine Ev.succ ?_
    simp only [laws_toCmpSS.l0, h1, if_false, e]
    exact Ev.some
  | succ d ih =>
    intro i x hi hx he
    have hlt : i < l.length := by omega
    have h1 : (i : Int) < (l.length : Int) := by omega
    have h1x : (i : Int) < (x.length : Int) := by omega
    have h2 : (0 : Int) ≤ (i : Int) := by omega
    have h3 := next_i hlt hl
    have hg : rd_L5 l (i : Int) = l[i] := rdD_cast _ hlt
    have hm : i < (convCmpSS l).length := by simpa [convCmpSS] using hlt
    have hv : (convCmpSS l)[i] = l[i].map convCmp := by simp [convCmpSS]
    refine Ev.succ ?_
    simp only [laws_toCmpSS.l0, h1, h2, h3, if_true, hg]
    refine Ev.bind (toCmpS l[i] (hn _ (List.getElem_mem hlt))) ?_
    simp only [h1x, if_true, Int.toNat_natCast]
    refine ih (i + 1) _ (by omega) (by simpa using hx) ?_
    have := take_set_step (l := x) (m := convCmpSS l) (by omega) hm he
    rw [hv] at this
    exact this
theorem toCmpSS (l : List (List S76)) (hn : (l.length : Int) + needCmpSS l ≤ 1048576) : Ev (fun k => laws_toCmpSS.f k l) (convCmpSS l) := by
  have h0 := needCmpSS_nonneg l
  unfold laws_toCmpSS.f
  simp only [show (0 : Int) ≤ (l.length : Int) by omega, if_true]
  refine Ev.cond (fun _ => ?_) (fun hq => absurd (by omega) hq)
  exact toCmpSS_l l (by omega) (fun x hx => by have := needCmpSS_mem hx; omega) l.length 0 _ (by omega) (by simp) (by simp)
theorem eqCmpSS_l (l : List (List S80)) (hl : l.length ≤ 9223372036854775807) (hf : ∀ y ∈ l, (y.length ≤ 9223372036854775807 ∧ ∀ z ∈ y, fitCmp z)) (d : Nat) : ∀ i : Nat, i + d = l.length → Ev (fun k => laws_eqCmpSS.l0 k l l (i : Int)) true := by
  induction d with
  | zero =>
    intro i hi
    have h1 : ¬ (i : Int) < (l.length : Int) := by omega
    refine Ev.succ ?_
    simp only [laws_eqCmpSS.l0, h1, if_false]
    exact Ev.some
  | succ d ih =>
    intro i hi
    have hlt : i < l.length := by omega
    have h1 : (i : Int) < (l.length : Int) := by omega
    have h2 : (0 : Int) ≤ (i : Int) := by omega
    have h3 := next_i hlt hl
    have hg : rd_L8 l (i : Int) = l[i] := rdD_cast _ hlt
    refine Ev.succ ?_
    simp only [laws_eqCmpSS.l0, h1, h2, h3, if_true, hg]
    refine Ev.bind (eqCmpS l[i] (hf _ (List.getElem_mem hlt))) ?_
    simp only [if_true]
    exact ih (i + 1) (by omega)
theorem eqCmpSS (l : List (List S80)) (hf : l.length ≤ 9223372036854775807 ∧ ∀ y ∈ l, (y.length ≤ 9223372036854775807 ∧ ∀ z ∈ y, fitCmp z)) : Ev (fun k => laws_eqCmpSS.f k l l) true := by
  unfold laws_eqCmpSS.f
  simp only [if_true]
  refine Ev.succ ?_
  simp only [laws_eqCmpSS.j0]
  exact eqCmpSS_l l hf.1 hf.2 l.length 0 (by omega)
theorem fit_convCmpSS (l : List (List S76)) (hn : (l.length : Int) + needCmpSS l ≤ 1048576) : (convCmpSS l).length ≤ 9223372036854775807 ∧ ∀ y ∈ convCmpSS l, (y.length ≤ 9223372036854775807 ∧ ∀ z ∈ y, fitCmp z) := by
  have h0 := needCmpSS_nonneg l
  refine ⟨by simp only [convCmpSS, List.length_map]; omega, fun y hy => ?_⟩
  obtain ⟨u, hu, rfl⟩ := List.mem_map.1 hy
  exact fit_convCmpS u (by have := needCmpSS_mem hu; omega)
end Go.Proofs.Ytfbbagddhfeefaa.Pure
