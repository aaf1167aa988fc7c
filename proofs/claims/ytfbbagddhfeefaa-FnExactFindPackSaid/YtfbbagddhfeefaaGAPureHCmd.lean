/- What the laws' helpers over values of the type Cmd come to. -/
import Derived.Test.YtfbbagddhfeefaaGAPureStr
import Derived.Test.YtfbbagddhfeefaaOGA
import Derived.Test.YtfbbagddhfeefaaPGAx3
import Derived.Test.YtfbbagddhfeefaaPGAx5
import Derived.Test.YtfbbagddhfeefaaPGAx6
import Derived.Test.YtfbbagddhfeefaaPGAx7
set_option linter.unusedVariables false
set_option linter.unusedSimpArgs false
namespace Go.Proofs.Ytfbbagddhfeefaa.Pure
open Go.RowKit Go.Proofs.Ytfbbagddhfeefaa.PGA Go.Proofs.YtfbbagddhfeefaaW.PrintWords Go.Proofs.YtfbbagddhfeefaaW.PrintLast Go.Proofs.Ytfbbagddhfeefaa.Aux

def needCmd (x : S199) : Int := (x.f0.size : Int) + szL x.f1
theorem needCmd_nonneg (x : S199) : 0 ≤ needCmd x := by
  have n1 := szL_nonneg x.f1
  unfold needCmd; omega
def needCmdS : List S199 → Int
  | [] => 0
  | x :: r => needCmd x + needCmdS r
theorem needCmdS_nonneg : ∀ l : List S199, 0 ≤ needCmdS l
  | [] => by simp [needCmdS]
  | x :: r => by have := needCmd_nonneg x; have := needCmdS_nonneg r; simp only [needCmdS]; omega
theorem needCmd_mem : ∀ {l : List S199} {x : S199}, x ∈ l → needCmd x ≤ needCmdS l
  | y :: r, x, h => by
    have h1 := needCmd_nonneg y
    have h2 := needCmdS_nonneg r
    simp only [needCmdS]
    rcases List.mem_cons.1 h with e | h
    · rw [e]; omega
    · have := needCmd_mem h; omega
theorem szCmd (x : S199) (a : Int) (ho : ok199 x) (h0 : 0 ≤ a) (ha : a ≤ 9223372036854775807) : Ev (fun k => laws_szCmd.f k x.f0 x.f1 a) (left (needCmd x) a) := by
  obtain ⟨o0, o1⟩ := ho
  unfold laws_szCmd.f needCmd
  have n1 := szL_nonneg x.f1
  have o0' := o0; unfold maxLen at o0'
  skip
  have hw0 : wrap64 (a - (x.f0.size : Int)) = a - (x.f0.size : Int) := wrap64_id (by omega) (by omega)
  simp only [hw0]
  by_cases h0 : a - (x.f0.size : Int) < 0
  · simp only [h0, if_true]
    exact Ev.cast Ev.some (left_not (by omega)).symm
  simp only [h0, if_false]
  skip
  refine Ev.bind (szStringS x.f1 (a - (x.f0.size : Int)) (by have := o1.1; unfold maxLen at this; omega) (fun z hz => by have := o1.2 z hz; unfold maxLen at this; omega) (by omega) (by omega)) ?_
  by_cases h1 : szL x.f1 ≤ (a - (x.f0.size : Int))
  case neg => rw [left_not h1]; first | exact Ev.some | exact Ev.cast Ev.some (left_not (by omega)).symm
  rw [left_pos h1]
  simp only [show ¬ (a - (x.f0.size : Int)) - szL x.f1 < 0 by omega, if_false]
  skip
  refine Ev.cast Ev.some ?_
  first | rfl | (rw [left_pos (by omega)]; omega)
theorem szCmdS_l (l : List S199) (hl : l.length ≤ 9223372036854775807) (ho : ∀ x ∈ l, ok199 x) (d : Nat) : ∀ (i : Nat) (a : Int), i + d = l.length → 0 ≤ a → a ≤ 9223372036854775807 →
    Ev (fun k => laws_szCmdS.l0 k l a (i : Int)) (left (needCmdS (l.drop i)) a) := by
  induction d with
  | zero =>
    intro i a hi h0 ha
    have h1 : ¬ (i : Int) < (l.length : Int) := by omega
    refine Ev.succ ?_
    rw [List.drop_eq_nil_of_le (by omega), left_pos (by simpa [needCmdS] using h0)]
    simp only [laws_szCmdS.l0, h1, if_false, needCmdS, Int.sub_zero]
    exact Ev.some
  | succ d ih =>
    intro i a hi h0 ha
    have hlt : i < l.length := by omega
    have h1 : (i : Int) < (l.length : Int) := by omega
    have h2 : (0 : Int) ≤ (i : Int) := by omega
    have h3 := next_i hlt hl
    have hn := needCmdS_nonneg (l.drop (i + 1))
    have hn0 := needCmd_nonneg l[i]
    have hg : rd_T199 l (i : Int) = l[i] := rdD_cast _ hlt
    refine Ev.succ ?_
    rw [drop_get hlt]
    simp only [laws_szCmdS.l0, h1, h2, h3, if_true, hg, needCmdS]
    refine Ev.bind (szCmd l[i] a (ho _ (List.getElem_mem hlt)) h0 ha) ?_
    by_cases h5 : needCmd l[i] ≤ a
    · rw [left_pos h5]
      simp only [show ¬ a - needCmd l[i] < 0 by omega, if_false]
      refine Ev.cast (ih (i + 1) (a - needCmd l[i]) (by omega) (by omega) (by omega)) ?_
      unfold left
      split <;> split <;> omega
    · rw [left_not h5]
      exact Ev.cast Ev.some (left_not (by omega)).symm
theorem szCmdS (l : List S199) (a : Int) (ho : l.length ≤ maxLen ∧ ∀ x ∈ l, ok199 x) (h0 : 0 ≤ a) (ha : a ≤ 9223372036854775807) : Ev (fun k => laws_szCmdS.f k l a) (left ((l.length : Int) + needCmdS l) a) := by
  obtain ⟨hl, ho⟩ := ho
  unfold maxLen at hl
  unfold laws_szCmdS.f
  have hn := needCmdS_nonneg l
  rw [wrap64_id (by omega) (by omega)]
  by_cases h : a - (l.length : Int) < 0
  · simp only [h, if_true]
    rw [left_not (by omega)]
    exact Ev.some
  · simp only [h, if_false]
    refine Ev.succ ?_
    simp only [laws_szCmdS.j0]
    refine Ev.cast (szCmdS_l l (by omega) ho l.length 0 (a - (l.length : Int)) (by omega) (by omega) (by omega)) ?_
    rw [List.drop_zero]
    unfold left
    split <;> split <;> omega
def convCmd (x : S199) : S163 := ⟨x.f0, x.f1⟩
theorem toCmd (x : S199) (hn : needCmd x ≤ 1048576) : Ev (fun k => laws_toCmd.f k x.f0 x.f1) ((convCmd x).f0, (convCmd x).f1) := by
  unfold needCmd at hn
  have n1 := szL_nonneg x.f1
  unfold laws_toCmd.f
  skip
  refine Ev.bind (toStringS x.f1 (by have := szT_nonneg x.f1; unfold szL at *; omega)) ?_
  skip
  exact Ev.some
theorem toCmdS_l (l : List S199) (hl : l.length ≤ 9223372036854775807) (hn : ∀ x ∈ l, needCmd x ≤ 1048576) (d : Nat) : ∀ (i : Nat) (x : List S163), i + d = l.length → x.length = l.length → x.take i = (l.map convCmd).take i →
    Ev (fun k => laws_toCmdS.l0 k l x (i : Int)) (l.map convCmd) := by
  induction d with
  | zero =>
    intro i x hi hx he
    have h1 : ¬ (i : Int) < (l.length : Int) := by omega
    have e : x = l.map convCmd := by rwa [List.take_of_length_le (by omega), List.take_of_length_le (by simp; omega)] at he
    refine Ev.succ ?_
    simp only [laws_toCmdS.l0, h1, if_false, e]
    exact Ev.some
  | succ d ih =>
    intro i x hi hx he
    have hlt : i < l.length := by omega
    have h1 : (i : Int) < (l.length : Int) := by omega
    have h1x : (i : Int) < (x.length : Int) := by omega
    have h2 : (0 : Int) ≤ (i : Int) := by omega
    have h3 := next_i hlt hl
    have hg : rd_T199 l (i : Int) = l[i] := rdD_cast _ hlt
    have hm : i < (l.map convCmd).length := by simpa using hlt
    have hv : (l.map convCmd)[i] = convCmd l[i] := by simp
    refine Ev.succ ?_
    simp only [laws_toCmdS.l0, h1, h2, h3, if_true, hg]
    refine Ev.bind (toCmd l[i] (hn _ (List.getElem_mem hlt))) ?_
    simp only [h1x, if_true, Int.toNat_natCast]
    refine ih (i + 1) _ (by omega) (by simpa using hx) ?_
    have := take_set_step (l := x) (m := l.map convCmd) (by omega) hm he
    rw [hv] at this
    exact this
theorem toCmdS (l : List S199) (hn : (l.length : Int) + needCmdS l ≤ 1048576) : Ev (fun k => laws_toCmdS.f k l) (l.map convCmd) := by
  have h0 := needCmdS_nonneg l
  unfold laws_toCmdS.f
  simp only [show (0 : Int) ≤ (l.length : Int) by omega, if_true]
  refine Ev.cond (fun _ => ?_) (fun hq => absurd (by omega) hq)
  exact toCmdS_l l (by omega) (fun x hx => by have := needCmd_mem hx; omega) l.length 0 _ (by omega) (by simp) (by simp)
/-- Its slices are no longer than a number of Go's tells. -/
def fitCmd (y : S163) : Prop := y.f1.length ≤ 9223372036854775807
theorem fit_convCmd (x : S199) (hn : needCmd x ≤ 1048576) : fitCmd (convCmd x) := by
  unfold needCmd at hn
  have n1 := szL_nonneg x.f1
  exact (show x.f1.length ≤ 9223372036854775807 from by have := szT_nonneg x.f1; unfold szL at *; omega)
theorem eqCmd (y : S163) (hf : fitCmd y) : Ev (fun k => laws_eqCmd.f k y.f0 y.f1 y.f0 y.f1) true := by
  unfold laws_eqCmd.f
  have m1 := hf
  skip
  first | simp only [if_true] | skip
  skip
  refine Ev.bind (eqStringS y.f1 y.f1 m1) ?_
  simp only [decide_true, if_true]
  skip
  first | simp only [if_true] | skip
  exact Ev.some
theorem eqCmdS_l (l : List S163) (hl : l.length ≤ 9223372036854775807) (hf : ∀ z ∈ l, fitCmd z) (d : Nat) : ∀ i : Nat, i + d = l.length → Ev (fun k => laws_eqCmdS.l0 k l l (i : Int)) true := by
  induction d with
  | zero =>
    intro i hi
    have h1 : ¬ (i : Int) < (l.length : Int) := by omega
    refine Ev.succ ?_
    simp only [laws_eqCmdS.l0, h1, if_false]
    exact Ev.some
  | succ d ih =>
    intro i hi
    have hlt : i < l.length := by omega
    have h1 : (i : Int) < (l.length : Int) := by omega
    have h2 : (0 : Int) ≤ (i : Int) := by omega
    have h3 := next_i hlt hl
    have hg : rd_T163 l (i : Int) = l[i] := rdD_cast _ hlt
    refine Ev.succ ?_
    simp only [laws_eqCmdS.l0, h1, h2, h3, if_true, hg]
    first | (refine Ev.succ (g := fun k => laws_eqCmdS.j0 k _ _) ?_; simp only [laws_eqCmdS.j0]) | skip
    first | simp only [h1, h2, h3, if_true, hg] | skip
    refine Ev.bind (eqCmd l[i] (hf _ (List.getElem_mem hlt))) ?_
    simp only [if_true]
    exact ih (i + 1) (by omega)
theorem eqCmdS (l : List S163) (hf : l.length ≤ 9223372036854775807 ∧ ∀ z ∈ l, fitCmd z) : Ev (fun k => laws_eqCmdS.f k l l) true := by
  unfold laws_eqCmdS.f
  simp only [if_true]
  refine Ev.succ ?_
  simp only [laws_eqCmdS.j0]
  exact eqCmdS_l l hf.1 hf.2 l.length 0 (by omega)
theorem fit_convCmdS (l : List S199) (hn : (l.length : Int) + needCmdS l ≤ 1048576) : (l.map convCmd).length ≤ 9223372036854775807 ∧ ∀ z ∈ l.map convCmd, fitCmd z := by
  have h0 := needCmdS_nonneg l
  refine ⟨by simp only [List.length_map]; omega, fun z hz => ?_⟩
  obtain ⟨u, hu, rfl⟩ := List.mem_map.1 hz
  exact fit_convCmd u (by have := needCmd_mem hu; omega)
end Go.Proofs.Ytfbbagddhfeefaa.Pure
