/- What the laws' helpers over values of the type File come to. -/
import Derived.Test.YtpcdhoeoefoeoaaGBPureStr
import Derived.Test.YtpcdhoeoefoeoaaOGB
import Derived.Test.YtpcdhoeoefoeoaaPGBx1
import Derived.Test.YtpcdhoeoefoeoaaPGBx2
import Derived.Test.YtpcdhoeoefoeoaaPGBx3
set_option linter.unusedVariables false
set_option linter.unusedSimpArgs false
namespace Go.Proofs.Ytpcdhoeoefoeoaa.Pure
open Go.RowKit Go.Proofs.Ytpcdhoeoefoeoaa.PGB Go.Proofs.YtpcdhoeoefoeoaaW.PrintWords Go.Proofs.YtpcdhoeoefoeoaaW.PrintLast Go.Proofs.Ytpcdhoeoefoeoaa.Aux

def needFile (x : S37) : Int := (x.f0.size : Int) + (x.f1.size : Int)
theorem needFile_nonneg (x : S37) : 0 ≤ needFile x := by
  unfold needFile; omega
def needFileS : List S37 → Int
  | [] => 0
  | x :: r => needFile x + needFileS r
theorem needFileS_nonneg : ∀ l : List S37, 0 ≤ needFileS l
  | [] => by simp [needFileS]
  | x :: r => by have := needFile_nonneg x; have := needFileS_nonneg r; simp only [needFileS]; omega
theorem needFile_mem : ∀ {l : List S37} {x : S37}, x ∈ l → needFile x ≤ needFileS l
  | y :: r, x, h => by
    have h1 := needFile_nonneg y
    have h2 := needFileS_nonneg r
    simp only [needFileS]
    rcases List.mem_cons.1 h with e | h
    · rw [e]; omega
    · have := needFile_mem h; omega
theorem szFile (x : S37) (a : Int) (ho : ok37 x) (h0 : 0 ≤ a) (ha : a ≤ 9223372036854775807) : Ev (fun k => laws_szFile.f x.f0 x.f1 a) (left (needFile x) a) := by
  obtain ⟨o0, o1⟩ := ho
  unfold laws_szFile.f needFile
  have o0' := o0; unfold maxLen at o0'
  have o1' := o1; unfold maxLen at o1'
  skip
  have hw0 : wrap64 (a - (x.f0.size : Int)) = a - (x.f0.size : Int) := wrap64_id (by omega) (by omega)
  simp only [hw0]
  by_cases h0 : a - (x.f0.size : Int) < 0
  · simp only [h0, if_true]
    exact Ev.cast Ev.some (left_not (by omega)).symm
  simp only [h0, if_false]
  skip
  have hw1 : wrap64 ((a - (x.f0.size : Int)) - (x.f1.size : Int)) = (a - (x.f0.size : Int)) - (x.f1.size : Int) := wrap64_id (by omega) (by omega)
  simp only [hw1]
  by_cases h1 : (a - (x.f0.size : Int)) - (x.f1.size : Int) < 0
  · simp only [h1, if_true]
    exact Ev.cast Ev.some (left_not (by omega)).symm
  simp only [h1, if_false]
  skip
  refine Ev.cast Ev.some ?_
  first | rfl | (rw [left_pos (by omega)]; omega)
theorem szFileS_l (l : List S37) (hl : l.length ≤ 9223372036854775807) (ho : ∀ x ∈ l, ok37 x) (d : Nat) : ∀ (i : Nat) (a : Int), i + d = l.length → 0 ≤ a → a ≤ 9223372036854775807 →
    Ev (fun k => laws_szFileS.l0 k l a (i : Int)) (left (needFileS (l.drop i)) a) := by
  induction d with
  | zero =>
    intro i a hi h0 ha
    have h1 : ¬ (i : Int) < (l.length : Int) := by omega
    refine Ev.succ ?_
    rw [List.drop_eq_nil_of_le (by omega), left_pos (by simpa [needFileS] using h0)]
    simp only [laws_szFileS.l0, h1, if_false, needFileS, Int.sub_zero]
    exact Ev.some
  | succ d ih =>
    intro i a hi h0 ha
    have hlt : i < l.length := by omega
    have h1 : (i : Int) < (l.length : Int) := by omega
    have h2 : (0 : Int) ≤ (i : Int) := by omega
    have h3 := next_i hlt hl
    have hn := needFileS_nonneg (l.drop (i + 1))
    have hn0 := needFile_nonneg l[i]
    have hg : rd_T37 l (i : Int) = l[i] := rdD_cast _ hlt
    refine Ev.succ ?_
    rw [drop_get hlt]
    simp only [laws_szFileS.l0, h1, h2, h3, if_true, hg, needFileS]
    refine Ev.bind (szFile l[i] a (ho _ (List.getElem_mem hlt)) h0 ha) ?_
    by_cases h5 : needFile l[i] ≤ a
    · rw [left_pos h5]
      simp only [show ¬ a - needFile l[i] < 0 by omega, if_false]
      refine Ev.cast (ih (i + 1) (a - needFile l[i]) (by omega) (by omega) (by omega)) ?_
      unfold left
      split <;> split <;> omega
    · rw [left_not h5]
      exact Ev.cast Ev.some (left_not (by omega)).symm
theorem szFileS (l : List S37) (a : Int) (ho : l.length ≤ maxLen ∧ ∀ x ∈ l, ok37 x) (h0 : 0 ≤ a) (ha : a ≤ 9223372036854775807) : Ev (fun k => laws_szFileS.f k l a) (left ((l.length : Int) + needFileS l) a) := by
  obtain ⟨hl, ho⟩ := ho
  unfold maxLen at hl
  unfold laws_szFileS.f
  have hn := needFileS_nonneg l
  rw [wrap64_id (by omega) (by omega)]
  by_cases h : a - (l.length : Int) < 0
  · simp only [h, if_true]
    rw [left_not (by omega)]
    exact Ev.some
  · simp only [h, if_false]
    refine Ev.succ ?_
    simp only [laws_szFileS.j0]
    refine Ev.cast (szFileS_l l (by omega) ho l.length 0 (a - (l.length : Int)) (by omega) (by omega) (by omega)) ?_
    rw [List.drop_zero]
    unfold left
    split <;> split <;> omega
def convFile (x : S37) : S40 := ⟨x.f0, x.f1⟩
theorem toFile (x : S37) (hn : needFile x ≤ 1048576) : Ev (fun k => laws_toFile.f x.f0 x.f1) ((convFile x).f0, (convFile x).f1) := by
  unfold needFile at hn
  unfold laws_toFile.f
  skip
  exact Ev.some
theorem toFileS_l (l : List S37) (hl : l.length ≤ 9223372036854775807) (hn : ∀ x ∈ l, needFile x ≤ 1048576) (d : Nat) : ∀ (i : Nat) (x : List S40), i + d = l.length → x.length = l.length → x.take i = (l.map convFile).take i →
    Ev (fun k => laws_toFileS.l0 k l x (i : Int)) (l.map convFile) := by
  induction d with
  | zero =>
    intro i x hi hx he
    have h1 : ¬ (i : Int) < (l.length : Int) := by omega
    have e : x = l.map convFile := by rwa [List.take_of_length_le (by omega), List.take_of_length_le (by simp; omega)] at he
    refine Ev.succ ?_
    simp only [laws_toFileS.l0, h1, if_false, e]
    exact Ev.some
  | succ d ih =>
    intro i x hi hx he
    have hlt : i < l.length := by omega
    have h1 : (i : Int) < (l.length : Int) := by omega
    have h1x : (i : Int) < (x.length : Int) := by omega
    have h2 : (0 : Int) ≤ (i : Int) := by omega
    have h3 := next_i hlt hl
    have hg : rd_T37 l (i : Int) = l[i] := rdD_cast _ hlt
    have hm : i < (l.map convFile).length := by simpa using hlt
    have hv : (l.map convFile)[i] = convFile l[i] := by simp
    refine Ev.succ ?_
    simp only [laws_toFileS.l0, h1, h2, h3, if_true, hg]
    refine Ev.bind (toFile l[i] (hn _ (List.getElem_mem hlt))) ?_
    simp only [h1x, if_true, Int.toNat_natCast]
    refine ih (i + 1) _ (by omega) (by simpa using hx) ?_
    have := take_set_step (l := x) (m := l.map convFile) (by omega) hm he
    rw [hv] at this
    exact this
theorem toFileS (l : List S37) (hn : (l.length : Int) + needFileS l ≤ 1048576) : Ev (fun k => laws_toFileS.f k l) (l.map convFile) := by
  have h0 := needFileS_nonneg l
  unfold laws_toFileS.f
  simp only [show (0 : Int) ≤ (l.length : Int) by omega, if_true]
  refine Ev.cond (fun _ => ?_) (fun hq => absurd (by omega) hq)
  exact toFileS_l l (by omega) (fun x hx => by have := needFile_mem hx; omega) l.length 0 _ (by omega) (by simp) (by simp)
/-- Its slices are no longer than a number of Go's tells. -/
def fitFile (y : S40) : Prop := True
theorem fit_convFile (x : S37) (hn : needFile x ≤ 1048576) : fitFile (convFile x) := by
  unfold needFile at hn
  trivial
theorem eqFile (y : S40) (hf : fitFile y) : Ev (fun k => laws_eqFile.f y.f0 y.f1 y.f0 y.f1) true := by
  unfold laws_eqFile.f
  skip
  skip
  first | simp only [if_true] | skip
  skip
  first | simp only [if_true] | skip
  skip
  first | simp only [if_true] | skip
  exact Ev.some
theorem eqFileS_l (l : List S40) (hl : l.length ≤ 9223372036854775807) (hf : ∀ z ∈ l, fitFile z) (d : Nat) : ∀ i : Nat, i + d = l.length → Ev (fun k => laws_eqFileS.l0 k l l (i : Int)) true := by
  induction d with
  | zero =>
    intro i hi
    have h1 : ¬ (i : Int) < (l.length : Int) := by omega
    refine Ev.succ ?_
    simp only [laws_eqFileS.l0, h1, if_false]
    exact Ev.some
  | succ d ih =>
    intro i hi
    have hlt : i < l.length := by omega
    have h1 : (i : Int) < (l.length : Int) := by omega
    have h2 : (0 : Int) ≤ (i : Int) := by omega
    have h3 := next_i hlt hl
    have hg : rd_T40 l (i : Int) = l[i] := rdD_cast _ hlt
    refine Ev.succ ?_
    simp only [laws_eqFileS.l0, h1, h2, h3, if_true, hg]
    first | (refine Ev.succ (g := fun k => laws_eqFileS.j0 k _ _) ?_; simp only [laws_eqFileS.j0]) | skip
    first | simp only [h1, h2, h3, if_true, hg] | skip
    refine Ev.bind (eqFile l[i] (hf _ (List.getElem_mem hlt))) ?_
    simp only [if_true]
    exact ih (i + 1) (by omega)
theorem eqFileS (l : List S40) (hf : l.length ≤ 9223372036854775807 ∧ ∀ z ∈ l, fitFile z) : Ev (fun k => laws_eqFileS.f k l l) true := by
  unfold laws_eqFileS.f
  simp only [if_true]
  refine Ev.succ ?_
  simp only [laws_eqFileS.j0]
  exact eqFileS_l l hf.1 hf.2 l.length 0 (by omega)
theorem fit_convFileS (l : List S37) (hn : (l.length : Int) + needFileS l ≤ 1048576) : (l.map convFile).length ≤ 9223372036854775807 ∧ ∀ z ∈ l.map convFile, fitFile z := by
  have h0 := needFileS_nonneg l
  refine ⟨by simp only [List.length_map]; omega, fun z hz => ?_⟩
  obtain ⟨u, hu, rfl⟩ := List.mem_map.1 hz
  exact fit_convFile u (by have := needFile_mem hu; omega)
end Go.Proofs.Ytpcdhoeoefoeoaa.Pure
