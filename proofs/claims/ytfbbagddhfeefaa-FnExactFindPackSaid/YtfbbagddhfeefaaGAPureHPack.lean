/- What the laws' helpers over values of the type Pack come to. -/
import Derived.Test.YtfbbagddhfeefaaGAPureStr
import Derived.Test.YtfbbagddhfeefaaOGA
import Derived.Test.YtfbbagddhfeefaaGAPureHNeed
import Derived.Test.YtfbbagddhfeefaaGAPureHCmd
import Derived.Test.YtfbbagddhfeefaaPGAx4
import Derived.Test.YtfbbagddhfeefaaPGAx5
import Derived.Test.YtfbbagddhfeefaaPGAx7
import Derived.Test.YtfbbagddhfeefaaPGAx8
set_option linter.unusedVariables false
set_option linter.unusedSimpArgs false
namespace Go.Proofs.Ytfbbagddhfeefaa.Pure
open Go.RowKit Go.Proofs.Ytfbbagddhfeefaa.PGA Go.Proofs.YtfbbagddhfeefaaW.PrintWords Go.Proofs.YtfbbagddhfeefaaW.PrintLast Go.Proofs.Ytfbbagddhfeefaa.Aux

def needPack (x : S90) : Int := (x.f0.size : Int) + szL x.f1 + ((x.f2.length : Int) + needNeedS x.f2) + ((x.f3.length : Int) + needCmdS x.f3)
theorem needPack_nonneg (x : S90) : 0 ≤ needPack x := by
  have n1 := szL_nonneg x.f1
  have n2 := needNeedS_nonneg x.f2
  have n3 := needCmdS_nonneg x.f3
  unfold needPack; omega
def needPackS : List S90 → Int
  | [] => 0
  | x :: r => needPack x + needPackS r
theorem needPackS_nonneg : ∀ l : List S90, 0 ≤ needPackS l
  | [] => by simp [needPackS]
  | x :: r => by have := needPack_nonneg x; have := needPackS_nonneg r; simp only [needPackS]; omega
theorem needPack_mem : ∀ {l : List S90} {x : S90}, x ∈ l → needPack x ≤ needPackS l
  | y :: r, x, h => by
    have h1 := needPack_nonneg y
    have h2 := needPackS_nonneg r
    simp only [needPackS]
    rcases List.mem_cons.1 h with e | h
    · rw [e]; omega
    · have := needPack_mem h; omega
theorem szPack (x : S90) (a : Int) (ho : ok90 x) (h0 : 0 ≤ a) (ha : a ≤ 9223372036854775807) : Ev (fun k => laws_szPack.f k x.f0 x.f1 x.f2 x.f3 a) (left (needPack x) a) := by
  obtain ⟨o0, o1, o2, o3⟩ := ho
  unfold laws_szPack.f needPack
  have n1 := szL_nonneg x.f1
  have n2 := needNeedS_nonneg x.f2
  have n3 := needCmdS_nonneg x.f3
  have o0' := o0; unfold maxLen at o0'
  first | (refine Ev.succ (g := fun k => laws_szPack.j0 k _ _ _ _ _) ?_; simp only [laws_szPack.j0]) | (refine Ev.succ (g := fun k => laws_szPack.j1 k _ _ _ _ _) ?_; simp only [laws_szPack.j1]) | skip
  have hw0 : wrap64 (a - (x.f0.size : Int)) = a - (x.f0.size : Int) := wrap64_id (by omega) (by omega)
  simp only [hw0]
  by_cases h0 : a - (x.f0.size : Int) < 0
  · simp only [h0, if_true]
    exact Ev.cast Ev.some (left_not (by omega)).symm
  simp only [h0, if_false]
  first | (refine Ev.succ (g := fun k => laws_szPack.j0 k _ _ _ _ _) ?_; simp only [laws_szPack.j0]) | (refine Ev.succ (g := fun k => laws_szPack.j1 k _ _ _ _ _) ?_; simp only [laws_szPack.j1]) | skip
  refine Ev.bind (szStringS x.f1 (a - (x.f0.size : Int)) (by have := o1.1; unfold maxLen at this; omega) (fun z hz => by have := o1.2 z hz; unfold maxLen at this; omega) (by omega) (by omega)) ?_
  by_cases h1 : szL x.f1 ≤ (a - (x.f0.size : Int))
  case neg => rw [left_not h1]; first | exact Ev.some | exact Ev.cast Ev.some (left_not (by omega)).symm
  rw [left_pos h1]
  simp only [show ¬ (a - (x.f0.size : Int)) - szL x.f1 < 0 by omega, if_false]
  first | (refine Ev.succ (g := fun k => laws_szPack.j0 k _ _ _ _ _) ?_; simp only [laws_szPack.j0]) | (refine Ev.succ (g := fun k => laws_szPack.j1 k _ _ _ _ _) ?_; simp only [laws_szPack.j1]) | skip
  refine Ev.bind (szNeedS x.f2 ((a - (x.f0.size : Int)) - szL x.f1) o2 (by omega) (by omega)) ?_
  by_cases h2 : ((x.f2.length : Int) + needNeedS x.f2) ≤ ((a - (x.f0.size : Int)) - szL x.f1)
  case neg => rw [left_not h2]; first | exact Ev.some | exact Ev.cast Ev.some (left_not (by omega)).symm
  rw [left_pos h2]
  simp only [show ¬ ((a - (x.f0.size : Int)) - szL x.f1) - ((x.f2.length : Int) + needNeedS x.f2) < 0 by omega, if_false]
  first | (refine Ev.succ (g := fun k => laws_szPack.j0 k _ _ _ _ _) ?_; simp only [laws_szPack.j0]) | (refine Ev.succ (g := fun k => laws_szPack.j1 k _ _ _ _ _) ?_; simp only [laws_szPack.j1]) | skip
  refine Ev.bind (szCmdS x.f3 (((a - (x.f0.size : Int)) - szL x.f1) - ((x.f2.length : Int) + needNeedS x.f2)) o3 (by omega) (by omega)) ?_
  by_cases h3 : ((x.f3.length : Int) + needCmdS x.f3) ≤ (((a - (x.f0.size : Int)) - szL x.f1) - ((x.f2.length : Int) + needNeedS x.f2))
  case neg => rw [left_not h3]; first | exact Ev.some | exact Ev.cast Ev.some (left_not (by omega)).symm
  rw [left_pos h3]
  simp only [show ¬ (((a - (x.f0.size : Int)) - szL x.f1) - ((x.f2.length : Int) + needNeedS x.f2)) - ((x.f3.length : Int) + needCmdS x.f3) < 0 by omega, if_false]
  first | (refine Ev.succ (g := fun k => laws_szPack.j0 k _ _ _ _ _) ?_; simp only [laws_szPack.j0]) | (refine Ev.succ (g := fun k => laws_szPack.j1 k _ _ _ _ _) ?_; simp only [laws_szPack.j1]) | skip
  refine Ev.cast Ev.some ?_
  first | rfl | (rw [left_pos (by omega)]; omega)
theorem szPackS_l (l : List S90) (hl : l.length ≤ 9223372036854775807) (ho : ∀ x ∈ l, ok90 x) (d : Nat) : ∀ (i : Nat) (a : Int), i + d = l.length → 0 ≤ a → a ≤ 9223372036854775807 →
    Ev (fun k => laws_szPackS.l0 k l a (i : Int)) (left (needPackS (l.drop i)) a) := by
  induction d with
  | zero =>
    intro i a hi h0 ha
    have h1 : ¬ (i : Int) < (l.length : Int) := by omega
    refine Ev.succ ?_
    rw [List.drop_eq_nil_of_le (by omega), left_pos (by simpa [needPackS] using h0)]
    simp only [laws_szPackS.l0, h1, if_false, needPackS, Int.sub_zero]
    exact Ev.some
  | succ d ih =>
    intro i a hi h0 ha
    have hlt : i < l.length := by omega
    have h1 : (i : Int) < (l.length : Int) := by omega
    have h2 : (0 : Int) ≤ (i : Int) := by omega
    have h3 := next_i hlt hl
    have hn := needPackS_nonneg (l.drop (i + 1))
    have hn0 := needPack_nonneg l[i]
    have hg : rd_T90 l (i : Int) = l[i] := rdD_cast _ hlt
    refine Ev.succ ?_
    rw [drop_get hlt]
    simp only [laws_szPackS.l0, h1, h2, h3, if_true, hg, needPackS]
    refine Ev.bind (szPack l[i] a (ho _ (List.getElem_mem hlt)) h0 ha) ?_
    by_cases h5 : needPack l[i] ≤ a
    · rw [left_pos h5]
      simp only [show ¬ a - needPack l[i] < 0 by omega, if_false]
      refine Ev.cast (ih (i + 1) (a - needPack l[i]) (by omega) (by omega) (by omega)) ?_
      unfold left
      split <;> split <;> omega
    · rw [left_not h5]
      exact Ev.cast Ev.some (left_not (by omega)).symm
theorem szPackS (l : List S90) (a : Int) (ho : l.length ≤ maxLen ∧ ∀ x ∈ l, ok90 x) (h0 : 0 ≤ a) (ha : a ≤ 9223372036854775807) : Ev (fun k => laws_szPackS.f k l a) (left ((l.length : Int) + needPackS l) a) := by
  obtain ⟨hl, ho⟩ := ho
  unfold maxLen at hl
  unfold laws_szPackS.f
  have hn := needPackS_nonneg l
  rw [wrap64_id (by omega) (by omega)]
  by_cases h : a - (l.length : Int) < 0
  · simp only [h, if_true]
    rw [left_not (by omega)]
    exact Ev.some
  · simp only [h, if_false]
    refine Ev.succ ?_
    simp only [laws_szPackS.j0]
    refine Ev.cast (szPackS_l l (by omega) ho l.length 0 (a - (l.length : Int)) (by omega) (by omega) (by omega)) ?_
    rw [List.drop_zero]
    unfold left
    split <;> split <;> omega
def convPack (x : S90) : S96 := ⟨x.f0, x.f1, x.f2.map convNeed, x.f3.map convCmd⟩
theorem toPack (x : S90) (hn : needPack x ≤ 1048576) : Ev (fun k => laws_toPack.f k x.f0 x.f1 x.f2 x.f3) ((convPack x).f0, (convPack x).f1, (convPack x).f2, (convPack x).f3) := by
  unfold needPack at hn
  have n1 := szL_nonneg x.f1
  have n2 := needNeedS_nonneg x.f2
  have n3 := needCmdS_nonneg x.f3
  unfold laws_toPack.f
  skip
  refine Ev.bind (toStringS x.f1 (by have := szT_nonneg x.f1; unfold szL at *; omega)) ?_
  skip
  refine Ev.bind (toNeedS x.f2 (by omega)) ?_
  skip
  refine Ev.bind (toCmdS x.f3 (by omega)) ?_
  skip
  exact Ev.some
theorem toPackS_l (l : List S90) (hl : l.length ≤ 9223372036854775807) (hn : ∀ x ∈ l, needPack x ≤ 1048576) (d : Nat) : ∀ (i : Nat) (x : List S96), i + d = l.length → x.length = l.length → x.take i = (l.map convPack).take i →
    Ev (fun k => laws_toPackS.l0 k l x (i : Int)) (l.map convPack) := by
  induction d with
  | zero =>
    intro i x hi hx he
    have h1 : ¬ (i : Int) < (l.length : Int) := by omega
    have e : x = l.map convPack := by rwa [List.take_of_length_le (by omega), List.take_of_length_le (by simp; omega)] at he
    refine Ev.succ ?_
    simp only [laws_toPackS.l0, h1, if_false, e]
    exact Ev.some
  | succ d ih =>
    intro i x hi hx he
    have hlt : i < l.length := by omega
    have h1 : (i : Int) < (l.length : Int) := by omega
    have h1x : (i : Int) < (x.length : Int) := by omega
    have h2 : (0 : Int) ≤ (i : Int) := by omega
    have h3 := next_i hlt hl
    have hg : rd_T90 l (i : Int) = l[i] := rdD_cast _ hlt
    have hm : i < (l.map convPack).length := by simpa using hlt
    have hv : (l.map convPack)[i] = convPack l[i] := by simp
    refine Ev.succ ?_
    simp only [laws_toPackS.l0, h1, h2, h3, if_true, hg]
    refine Ev.bind (toPack l[i] (hn _ (List.getElem_mem hlt))) ?_
    simp only [h1x, if_true, Int.toNat_natCast]
    refine ih (i + 1) _ (by omega) (by simpa using hx) ?_
    have := take_set_step (l := x) (m := l.map convPack) (by omega) hm he
    rw [hv] at this
    exact this
theorem toPackS (l : List S90) (hn : (l.length : Int) + needPackS l ≤ 1048576) : Ev (fun k => laws_toPackS.f k l) (l.map convPack) := by
  have h0 := needPackS_nonneg l
  unfold laws_toPackS.f
  simp only [show (0 : Int) ≤ (l.length : Int) by omega, if_true]
  refine Ev.cond (fun _ => ?_) (fun hq => absurd (by omega) hq)
  exact toPackS_l l (by omega) (fun x hx => by have := needPack_mem hx; omega) l.length 0 _ (by omega) (by simp) (by simp)
/-- Its slices are no longer than a number of Go's tells. -/
def fitPack (y : S96) : Prop := y.f1.length ≤ 9223372036854775807 ∧ (y.f2.length ≤ 9223372036854775807 ∧ ∀ z ∈ y.f2, fitNeed z) ∧ (y.f3.length ≤ 9223372036854775807 ∧ ∀ z ∈ y.f3, fitCmd z)
theorem fit_convPack (x : S90) (hn : needPack x ≤ 1048576) : fitPack (convPack x) := by
  unfold needPack at hn
  have n1 := szL_nonneg x.f1
  have n2 := needNeedS_nonneg x.f2
  have n3 := needCmdS_nonneg x.f3
  exact ⟨(show x.f1.length ≤ 9223372036854775807 from by have := szT_nonneg x.f1; unfold szL at *; omega), ⟨by simp only [convPack, List.length_map]; omega, fun z hz => by obtain ⟨u, hu, rfl⟩ := List.mem_map.1 hz; exact fit_convNeed u (by have := needNeed_mem hu; omega)⟩, ⟨by simp only [convPack, List.length_map]; omega, fun z hz => by obtain ⟨u, hu, rfl⟩ := List.mem_map.1 hz; exact fit_convCmd u (by have := needCmd_mem hu; omega)⟩⟩
theorem eqPack (y : S96) (hf : fitPack y) : Ev (fun k => laws_eqPack.f k y.f0 y.f1 y.f2 y.f3 y.f0 y.f1 y.f2 y.f3) true := by
  unfold laws_eqPack.f
  obtain ⟨m1, m2, m3⟩ := hf
  first | (refine Ev.succ (g := fun k => laws_eqPack.j0 k _ _ _ _ _ _ _ _) ?_; simp only [laws_eqPack.j0]) | (refine Ev.succ (g := fun k => laws_eqPack.j1 k _ _ _ _ _ _ _ _) ?_; simp only [laws_eqPack.j1]) | skip
  first | simp only [if_true] | skip
  first | (refine Ev.succ (g := fun k => laws_eqPack.j0 k _ _ _ _ _ _ _ _) ?_; simp only [laws_eqPack.j0]) | (refine Ev.succ (g := fun k => laws_eqPack.j1 k _ _ _ _ _ _ _ _) ?_; simp only [laws_eqPack.j1]) | skip
  refine Ev.bind (eqStringS y.f1 y.f1 m1) ?_
  simp only [decide_true, if_true]
  first | (refine Ev.succ (g := fun k => laws_eqPack.j0 k _ _ _ _ _ _ _ _) ?_; simp only [laws_eqPack.j0]) | (refine Ev.succ (g := fun k => laws_eqPack.j1 k _ _ _ _ _ _ _ _) ?_; simp only [laws_eqPack.j1]) | skip
  refine Ev.bind (eqNeedS y.f2 m2) ?_
  simp only [if_true]
  first | (refine Ev.succ (g := fun k => laws_eqPack.j0 k _ _ _ _ _ _ _ _) ?_; simp only [laws_eqPack.j0]) | (refine Ev.succ (g := fun k => laws_eqPack.j1 k _ _ _ _ _ _ _ _) ?_; simp only [laws_eqPack.j1]) | skip
  refine Ev.bind (eqCmdS y.f3 m3) ?_
  simp only [if_true]
  first | (refine Ev.succ (g := fun k => laws_eqPack.j0 k _ _ _ _ _ _ _ _) ?_; simp only [laws_eqPack.j0]) | (refine Ev.succ (g := fun k => laws_eqPack.j1 k _ _ _ _ _ _ _ _) ?_; simp only [laws_eqPack.j1]) | skip
  first | simp only [if_true] | skip
  exact Ev.some
theorem eqPackS_l (l : List S96) (hl : l.length ≤ 9223372036854775807) (hf : ∀ z ∈ l, fitPack z) (d : Nat) : ∀ i : Nat, i + d = l.length → Ev (fun k => laws_eqPackS.l0 k l l (i : Int)) true := by
  induction d with
  | zero =>
    intro i hi
    have h1 : ¬ (i : Int) < (l.length : Int) := by omega
    refine Ev.succ ?_
    simp only [laws_eqPackS.l0, h1, if_false]
    exact Ev.some
  | succ d ih =>
    intro i hi
    have hlt : i < l.length := by omega
    have h1 : (i : Int) < (l.length : Int) := by omega
    have h2 : (0 : Int) ≤ (i : Int) := by omega
    have h3 := next_i hlt hl
    have hg : rd_T96 l (i : Int) = l[i] := rdD_cast _ hlt
    refine Ev.succ ?_
    simp only [laws_eqPackS.l0, h1, h2, h3, if_true, hg]
    first | (refine Ev.succ (g := fun k => laws_eqPackS.j0 k _ _) ?_; simp only [laws_eqPackS.j0]) | skip
    first | simp only [h1, h2, h3, if_true, hg] | skip
    refine Ev.bind (eqPack l[i] (hf _ (List.getElem_mem hlt))) ?_
    simp only [if_true]
    exact ih (i + 1) (by omega)
theorem eqPackS (l : List S96) (hf : l.length ≤ 9223372036854775807 ∧ ∀ z ∈ l, fitPack z) : Ev (fun k => laws_eqPackS.f k l l) true := by
  unfold laws_eqPackS.f
  simp only [if_true]
  refine Ev.succ ?_
  simp only [laws_eqPackS.j0]
  exact eqPackS_l l hf.1 hf.2 l.length 0 (by omega)
theorem fit_convPackS (l : List S90) (hn : (l.length : Int) + needPackS l ≤ 1048576) : (l.map convPack).length ≤ 9223372036854775807 ∧ ∀ z ∈ l.map convPack, fitPack z := by
  have h0 := needPackS_nonneg l
  refine ⟨by simp only [List.length_map]; omega, fun z hz => ?_⟩
  obtain ⟨u, hu, rfl⟩ := List.mem_map.1 hz
  exact fit_convPack u (by have := needPack_mem hu; omega)
end Go.Proofs.Ytfbbagddhfeefaa.Pure
