/- What the laws' helpers over values of the type Cmp come to. -/
import Derived.Test.YtfbbagddhfeefaaZGCGCPureStr
import Derived.Test.YtfbbagddhfeefaaZGCOGC
import Derived.Test.YtfbbagddhfeefaaZGCGCPureHVer
import Derived.Test.YtfbbagddhfeefaaZGCPGCx2
import Derived.Test.YtfbbagddhfeefaaZGCPGCx7
import Derived.Test.YtfbbagddhfeefaaZGCPGCx11
set_option linter.unusedVariables false
set_option linter.unusedSimpArgs false
namespace Go.Proofs.Ytfbbagddhfeefaa.Pure
open Go.RowKit Go.Proofs.Ytfbbagddhfeefaa.PGC Go.Proofs.YtfbbagddhfeefaaW.PrintWords Go.Proofs.YtfbbagddhfeefaaW.PrintLast Go.Proofs.Ytfbbagddhfeefaa.Aux

def needCmp (x : S76) : Int := needVer x.f1
theorem needCmp_nonneg (x : S76) : 0 ≤ needCmp x := by
  have n1 := needVer_nonneg x.f1
  unfold needCmp; omega
def needCmpS : List S76 → Int
  | [] => 0
  | x :: r => needCmp x + needCmpS r
theorem needCmpS_nonneg : ∀ l : List S76, 0 ≤ needCmpS l
  | [] => by simp [needCmpS]
  | x :: r => by have := needCmp_nonneg x; have := needCmpS_nonneg r; simp only [needCmpS]; omega
theorem needCmp_mem : ∀ {l : List S76} {x : S76}, x ∈ l → needCmp x ≤ needCmpS l
  | y :: r, x, h => by
    have h1 := needCmp_nonneg y
    have h2 := needCmpS_nonneg r
    simp only [needCmpS]
    rcases List.mem_cons.1 h with e | h
    · rw [e]; omega
    · have := needCmp_mem h; omega
theorem szCmp (x : S76) (a : Int) (ho : ok76 x) (h0 : 0 ≤ a) (ha : a ≤ 9223372036854775807) : Ev (fun k => laws_szCmp.f k x.f0 x.f1.f0 x.f1.f1 x.f1.f2 x.f1.f3 a) (left (needCmp x) a) := by
  obtain ⟨o0, o1⟩ := ho
  unfold laws_szCmp.f needCmp
  have n1 := needVer_nonneg x.f1
  skip
  refine Ev.bind (szVer x.f1 a o1 (by omega) (by omega)) ?_
  by_cases h1 : needVer x.f1 ≤ a
  case neg => rw [left_not h1]; first | exact Ev.some | exact Ev.cast Ev.some (left_not (by omega)).symm
  rw [left_pos h1]
  simp only [show ¬ a - needVer x.f1 < 0 by omega, if_false]
  skip
  refine Ev.cast Ev.some ?_
  first | rfl | (rw [left_pos (by omega)]; omega)
theorem szCmpS_l (l : List S76) (hl : l.length ≤ 9223372036854775807) (ho : ∀ x ∈ l, ok76 x) (d : Nat) : ∀ (i : Nat) (a : Int), i + d = l.length → 0 ≤ a → a ≤ 9223372036854775807 →
    Ev (fun k => laws_szCmpS.l0 k l a (i : Int)) (left (needCmpS (l.drop i)) a) := by
  induction d with
  | zero =>
    intro i a hi h0 ha
    have h1 : ¬ (i : Int) < (l.length : Int) := by omega
    refine Ev.succ ?_
    rw [List.drop_eq_nil_of_le (by omega), left_pos (by simpa [needCmpS] using h0)]
    simp only [laws_szCmpS.l0, h1, if_false, needCmpS, Int.sub_zero]
    exact Ev.some
  | succ d ih =>
    intro i a hi h0 ha
    have hlt : i < l.length := by omega
    have h1 : (i : Int) < (l.length : Int) := by omega
    have h2 : (0 : Int) ≤ (i : Int) := by omega
    have h3 := next_i hlt hl
    have hn := needCmpS_nonneg (l.drop (i + 1))
    have hn0 := needCmp_nonneg l[i]
    have hg : rd_T76 l (i : Int) = l[i] := rdD_cast _ hlt
    refine Ev.succ ?_
    rw [drop_get hlt]
    simp only [laws_szCmpS.l0, h1, h2, h3, if_true, hg, needCmpS]
    refine Ev.bind (szCmp l[i] a (ho _ (List.getElem_mem hlt)) h0 ha) ?_
    by_cases h5 : needCmp l[i] ≤ a
    · rw [left_pos h5]
      simp only [show ¬ a - needCmp l[i] < 0 by omega, if_false]
      refine Ev.cast (ih (i + 1) (a - needCmp l[i]) (by omega) (by omega) (by omega)) ?_
      unfold left
      split <;> split <;> omega
    · rw [left_not h5]
      exact Ev.cast Ev.some (left_not (by omega)).symm
theorem szCmpS (l : List S76) (a : Int) (ho : l.length ≤ maxLen ∧ ∀ x ∈ l, ok76 x) (h0 : 0 ≤ a) (ha : a ≤ 9223372036854775807) : Ev (fun k => laws_szCmpS.f k l a) (left ((l.length : Int) + needCmpS l) a) := by
  obtain ⟨hl, ho⟩ := ho
  unfold maxLen at hl
  unfold laws_szCmpS.f
  have hn := needCmpS_nonneg l
  rw [wrap64_id (by omega) (by omega)]
  by_cases h : a - (l.length : Int) < 0
  · simp only [h, if_true]
    rw [left_not (by omega)]
    exact Ev.some
  · simp only [h, if_false]
    refine Ev.succ ?_
    simp only [laws_szCmpS.j0]
    refine Ev.cast (szCmpS_l l (by omega) ho l.length 0 (a - (l.length : Int)) (by omega) (by omega) (by omega)) ?_
    rw [List.drop_zero]
    unfold left
    split <;> split <;> omega
def convCmp (x : S76) : S80 := ⟨x.f0, convVer x.f1⟩
theorem toCmp (x : S76) (hn : needCmp x ≤ 1048576) : Ev (fun k => laws_toCmp.f k x.f0 x.f1.f0 x.f1.f1 x.f1.f2 x.f1.f3) ((convCmp x).f0, (convCmp x).f1.f0, (convCmp x).f1.f1, (convCmp x).f1.f2, (convCmp x).f1.f3) := by
  unfold needCmp at hn
  have n1 := needVer_nonneg x.f1
  unfold laws_toCmp.f
  skip
  refine Ev.bind (toVer x.f1 (by omega)) ?_
  skip
  exact Ev.some
theorem toCmpS_l (l : List S76) (hl : l.length ≤ 9223372036854775807) (hn : ∀ x ∈ l, needCmp x ≤ 1048576) (d : Nat) : ∀ (i : Nat) (x : List S80), i + d = l.length → x.length = l.length → x.take i = (l.map convCmp).take i →
    Ev (fun k => laws_toCmpS.l0 k l x (i : Int)) (l.map convCmp) := by
  induction d with
  | zero =>
    intro i x hi hx he
    have h1 : ¬ (i : Int) < (l.length : Int) := by omega
    have e : x = l.map convCmp := by rwa [List.take_of_length_le (by omega), List.take_of_length_le (by simp; omega)] at he
    refine Ev.succ ?_
    simp only [laws_toCmpS.l0, h1, if_false, e]
    exact Ev.some
  | succ d ih =>
    intro i x hi hx he
    have hlt : i < l.length := by omega
    have h1 : (i : Int) < (l.length : Int) := by omega
    have h1x : (i : Int) < (x.length : Int) := by omega
    have h2 : (0 : Int) ≤ (i : Int) := by omega
    have h3 := next_i hlt hl
    have hg : rd_T76 l (i : Int) = l[i] := rdD_cast _ hlt
    have hm : i < (l.map convCmp).length := by simpa using hlt
    have hv : (l.map convCmp)[i] = convCmp l[i] := by simp
    refine Ev.succ ?_
    simp only [laws_toCmpS.l0, h1, h2, h3, if_true, hg]
    refine Ev.bind (toCmp l[i] (hn _ (List.getElem_mem hlt))) ?_
    simp only [h1x, if_true, Int.toNat_natCast]
    refine ih (i + 1) _ (by omega) (by simpa using hx) ?_
    have := take_set_step (l := x) (m := l.map convCmp) (by omega) hm he
    rw [hv] at this
    exact this
theorem toCmpS (l : List S76) (hn : (l.length : Int) + needCmpS l ≤ 1048576) : Ev (fun k => laws_toCmpS.f k l) (l.map convCmp) := by
  have h0 := needCmpS_nonneg l
  unfold laws_toCmpS.f
  simp only [show (0 : Int) ≤ (l.length : Int) by omega, if_true]
  refine Ev.cond (fun _ => ?_) (fun hq => absurd (by omega) hq)
  exact toCmpS_l l (by omega) (fun x hx => by have := needCmp_mem hx; omega) l.length 0 _ (by omega) (by simp) (by simp)
/-- Its slices are no longer than a number of Go's tells. -/
def fitCmp (y : S80) : Prop := fitVer y.f1
theorem fit_convCmp (x : S76) (hn : needCmp x ≤ 1048576) : fitCmp (convCmp x) := by
  unfold needCmp at hn
  have n1 := needVer_nonneg x.f1
  exact (fit_convVer _ (by omega))
theorem eqCmp (y : S80) (hf : fitCmp y) : Ev (fun k => laws_eqCmp.f k y.f0 y.f1.f0 y.f1.f1 y.f1.f2 y.f1.f3 y.f0 y.f1.f0 y.f1.f1 y.f1.f2 y.f1.f3) true := by
  unfold laws_eqCmp.f
  have m1 := hf
  skip
  first | simp only [if_true] | skip
  skip
  refine Ev.bind (eqVer y.f1 m1) ?_
  simp only [if_true]
  skip
  first | simp only [if_true] | skip
  exact Ev.some
theorem eqCmpS_l (l : List S80) (hl : l.length ≤ 9223372036854775807) (hf : ∀ z ∈ l, fitCmp z) (d : Nat) : ∀ i : Nat, i + d = l.length → Ev (fun k => laws_eqCmpS.l0 k l l (i : Int)) true := by
  induction d with
  | zero =>
    intro i hi
    have h1 : ¬ (i : Int) < (l.length : Int) := by omega
    refine Ev.succ ?_
    simp only [laws_eqCmpS.l0, h1, if_false]
    exact Ev.some
  | succ d ih =>
    intro i hi
    have hlt : i < l.length := by omega
    have h1 : (i : Int) < (l.length : Int) := by omega
    have h2 : (0 : Int) ≤ (i : Int) := by omega
    have h3 := next_i hlt hl
    have hg : rd_T80 l (i : Int) = l[i] := rdD_cast _ hlt
    refine Ev.succ ?_
    simp only [laws_eqCmpS.l0, h1, h2, h3, if_true, hg]
    first | (refine Ev.succ (g := fun k => laws_eqCmpS.j0 k _ _) ?_; simp only [laws_eqCmpS.j0]) | skip
    first | simp only [h1, h2, h3, if_true, hg] | skip
    refine Ev.bind (eqCmp l[i] (hf _ (List.getElem_mem hlt))) ?_
    simp only [if_true]
    exact ih (i + 1) (by omega)
theorem eqCmpS (l : List S80) (hf : l.length ≤ 9223372036854775807 ∧ ∀ z ∈ l, fitCmp z) : Ev (fun k => laws_eqCmpS.f k l l) true := by
  unfold laws_eqCmpS.f
  simp only [if_true]
  refine Ev.succ ?_
  simp only [laws_eqCmpS.j0]
  exact eqCmpS_l l hf.1 hf.2 l.length 0 (by omega)
theorem fit_convCmpS (l : List S76) (hn : (l.length : Int) + needCmpS l ≤ 1048576) : (l.map convCmp).length ≤ 9223372036854775807 ∧ ∀ z ∈ l.map convCmp, fitCmp z := by
  have h0 := needCmpS_nonneg l
  refine ⟨by simp only [List.length_map]; omega, fun z hz => ?_⟩
  obtain ⟨u, hu, rfl⟩ := List.mem_map.1 hz
  exact fit_convCmp u (by have := needCmp_mem hu; omega)
end Go.Proofs.Ytfbbagddhfeefaa.Pure
