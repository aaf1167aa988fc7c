/- DiffFiles of the reference and of the program: the paths of what differs, sorted. -/
import Derived.Test.YtpcdhoeoefoeoaaGBPureSorted
import Derived.Test.YtpcdhoeoefoeoaaGBPureGetFile
import Derived.Test.YtpcdhoeoefoeoaaPGBx2
import Derived.Test.YtpcdhoeoefoeoaaPGBx3
set_option linter.unusedVariables false
set_option linter.unusedSimpArgs false
namespace Go.Proofs.Ytpcdhoeoefoeoaa.Pure
open Go.RowKit Go.Proofs.Ytpcdhoeoefoeoaa.PGB Go.Proofs.YtpcdhoeoefoeoaaW.PrintWords Go.Proofs.YtpcdhoeoefoeoaaW.PrintLast Go.Proofs.Ytpcdhoeoefoeoaa.Aux

/-- A file that the others don't hold, or hold with another text. -/
def unlike (b : List S40) (x : S40) : Bool := !((getM b x.f0).2 && decide ((getM b x.f0).1.toList = x.f1.toList))
def alone (a : List S40) (x : S40) : Bool := !(getM a x.f0).2
def diffA (b l : List S40) : List ByteArray := (l.filter (unlike b)).map (·.f0)
def diffB (a l : List S40) : List ByteArray := (l.filter (alone a)).map (·.f0)
def diffM (a b : List S40) : List ByteArray := sortB (diffA b a ++ diffB a b)
theorem diffA_length (b l : List S40) : (diffA b l).length ≤ l.length := by
  unfold diffA
  rw [List.length_map]
  exact List.length_filter_le _ _
theorem diffB_length (a l : List S40) : (diffB a l).length ≤ l.length := by
  unfold diffB
  rw [List.length_map]
  exact List.length_filter_le _ _
theorem diffM_length (a b : List S40) : (diffM a b).length ≤ a.length + b.length := by
  have h1 := sortB_length (diffA b a ++ diffB a b)
  rw [List.length_append] at h1
  have h2 := diffA_length b a
  have h3 := diffB_length a b
  unfold diffM
  omega
theorem diffA_cons (b l : List S40) (x : S40) : diffA b (x :: l) = (if unlike b x then [x.f0] else []) ++ diffA b l := by
  unfold diffA
  by_cases h : unlike b x = true
  · simp [h]
  · simp [h]
theorem diffB_cons (a l : List S40) (x : S40) : diffB a (x :: l) = (if alone a x then [x.f0] else []) ++ diffB a l := by
  unfold diffB
  by_cases h : alone a x = true
  · simp [h]
  · simp [h]
theorem spec_diff_l1 (a b : List S40) (ha : a.length ≤ 4194304) (hb : b.length ≤ 4194304) (d : Nat) : ∀ (i : Nat) (acc : List ByteArray), i + d = b.length → acc.length + d ≤ 16777216 →
    Ev (fun k => spec_DiffFiles.l1 k a b acc (i : Int)) (sortB (acc ++ diffB a (b.drop i))) := by
  induction d with
  | zero =>
    intro i acc hi hacc
    have h1 : ¬ (i : Int) < (b.length : Int) := by omega
    refine Ev.succ ?_
    rw [List.drop_eq_nil_of_le (by omega), show diffB a [] = [] from rfl, List.append_nil]
    simp only [spec_DiffFiles.l1, h1, if_false]
    exact Ev.bind (spec_sorted acc (by omega)) Ev.some
  | succ d ih =>
    intro i acc hi hacc
    have hlt : i < b.length := by omega
    have h1 : (i : Int) < (b.length : Int) := by omega
    have h2 : (0 : Int) ≤ (i : Int) := by omega
    have h3 := next_i hlt (by omega)
    have hg : rd_T40 b (i : Int) = b[i] := rdD_cast _ hlt
    refine Ev.succ ?_
    rw [drop_get hlt, diffB_cons]
    simp only [spec_DiffFiles.l1, h1, h2, h3, if_true, hg]
    refine Ev.bind (spec_get a _ (by omega)) ?_
    by_cases c : (getM a b[i].f0).2 = true
    · simp only [c, if_true, alone, Bool.not_true, Bool.false_eq_true, if_false, List.nil_append]
      exact ih (i + 1) acc (by omega) (by omega)
    · have c' : (getM a b[i].f0).2 = false := by simpa using c
      simp only [c', Bool.false_eq_true, if_false, alone, Bool.not_false, if_true, show acc.length < 8796093022208 by omega]
      rw [← List.append_assoc]
      exact ih (i + 1) _ (by omega) (by rw [List.length_append, List.length_singleton]; omega)
theorem spec_diff_l0 (a b : List S40) (ha : a.length ≤ 4194304) (hb : b.length ≤ 4194304) (d : Nat) : ∀ (i : Nat) (acc : List ByteArray), i + d = a.length → acc.length + d ≤ 4194304 →
    Ev (fun k => spec_DiffFiles.l0 k a b acc (i : Int)) (sortB (acc ++ diffA b (a.drop i) ++ diffB a b)) := by
  induction d with
  | zero =>
    intro i acc hi hacc
    have h1 : ¬ (i : Int) < (a.length : Int) := by omega
    refine Ev.succ ?_
    rw [List.drop_eq_nil_of_le (by omega), show diffA b [] = [] from rfl, List.append_nil]
    simp only [spec_DiffFiles.l0, h1, if_false]
    have := spec_diff_l1 a b ha hb b.length 0 acc (by omega) (by omega)
    simpa using this
  | succ d ih =>
    intro i acc hi hacc
    have hlt : i < a.length := by omega
    have h1 : (i : Int) < (a.length : Int) := by omega
    have h2 : (0 : Int) ≤ (i : Int) := by omega
    have h3 := next_i hlt (by omega)
    have hg : rd_T40 a (i : Int) = a[i] := rdD_cast _ hlt
    refine Ev.succ ?_
    rw [drop_get hlt, diffA_cons]
    simp only [spec_DiffFiles.l0, h1, h2, h3, if_true, hg]
    refine Ev.bind (spec_get b _ (by omega)) ?_
    by_cases c : (getM b a[i].f0).2 = true
    · by_cases e : (getM b a[i].f0).1.toList = a[i].f1.toList
      · simp only [c, e, if_true, unlike, decide_true, Bool.and_self, Bool.not_true, Bool.false_eq_true, if_false, List.nil_append]
        exact ih (i + 1) acc (by omega) (by omega)
      · simp only [c, e, if_true, if_false, unlike, decide_false, Bool.and_false, Bool.not_false, show acc.length < 8796093022208 by omega]
        rw [← List.append_assoc]
        exact ih (i + 1) _ (by omega) (by rw [List.length_append, List.length_singleton]; omega)
    · have c' : (getM b a[i].f0).2 = false := by simpa using c
      simp only [c', Bool.false_eq_true, if_false, unlike, Bool.false_and, Bool.not_false, if_true, show acc.length < 8796093022208 by omega]
      rw [← List.append_assoc]
      exact ih (i + 1) _ (by omega) (by rw [List.length_append, List.length_singleton]; omega)
theorem spec_diff (a b : List S40) (ha : a.length ≤ 4194304) (hb : b.length ≤ 4194304) : Ev (fun k => spec_DiffFiles.f k a b) (diffM a b) := by
  unfold spec_DiffFiles.f diffM
  have := spec_diff_l0 a b ha hb a.length 0 [] (by omega) (by simpa using ha)
  simpa using this
theorem fileAt_neg (a : List S40) (p : ByteArray) : fAt a p 0 < 0 ↔ (getM a p).2 = false := by
  unfold getM
  by_cases h : fAt a p 0 < 0
  · simp [h]
  · simp [h]
theorem impl_diff_l1 (a b : List S40) (ha : a.length ≤ 4194304) (hb : b.length ≤ 4194304) (d : Nat) : ∀ (i : Nat) (acc : List ByteArray), i + d = b.length → acc.length + d ≤ 16777216 →
    Ev (fun k => impl_DiffFiles.l1 k a acc b (b.length : Int) (i : Int)) (sortB (acc ++ diffB a (b.drop i))) := by
  induction d with
  | zero =>
    intro i acc hi hacc
    have h1 : ¬ (i : Int) < (b.length : Int) := by omega
    refine Ev.succ ?_
    rw [List.drop_eq_nil_of_le (by omega), show diffB a [] = [] from rfl, List.append_nil]
    simp only [impl_DiffFiles.l1, h1, if_false, impl_sorted acc (by omega), Option.bind_some]
    exact Ev.some
  | succ d ih =>
    intro i acc hi hacc
    have hlt : i < b.length := by omega
    have h1 : (i : Int) < (b.length : Int) := by omega
    have h2 : (0 : Int) ≤ (i : Int) := by omega
    have h3 := next_i hlt (by omega)
    have hg : rd_T40 b (i : Int) = b[i] := rdD_cast _ hlt
    have hf : impl_fileAt.f a b[i].f0 = some (fAt a b[i].f0 0) := rfl
    refine Ev.succ ?_
    rw [drop_get hlt, diffB_cons]
    simp only [impl_DiffFiles.l1, h1, h2, h3, if_true, hg, hf, Option.bind_some, fileAt_neg]
    by_cases c : (getM a b[i].f0).2 = true
    · simp only [c, Bool.true_eq_false, if_true, alone, Bool.not_true, Bool.false_eq_true, if_false, List.nil_append]
      exact ih (i + 1) acc (by omega) (by omega)
    · have c' : (getM a b[i].f0).2 = false := by simpa using c
      simp only [c', Bool.false_eq_true, if_false, alone, Bool.not_false, if_true, show acc.length < 8796093022208 by omega]
      rw [← List.append_assoc]
      exact ih (i + 1) _ (by omega) (by rw [List.length_append, List.length_singleton]; omega)
theorem impl_diff_l0 (a b : List S40) (ha : a.length ≤ 4194304) (hb : b.length ≤ 4194304) (d : Nat) : ∀ (i : Nat) (acc : List ByteArray), i + d = a.length → acc.length + d ≤ 4194304 →
    Ev (fun k => impl_DiffFiles.l0 k a b acc a (a.length : Int) (i : Int)) (sortB (acc ++ diffA b (a.drop i) ++ diffB a b)) := by
  induction d with
  | zero =>
    intro i acc hi hacc
    have h1 : ¬ (i : Int) < (a.length : Int) := by omega
    refine Ev.succ ?_
    rw [List.drop_eq_nil_of_le (by omega), show diffA b [] = [] from rfl, List.append_nil]
    simp only [impl_DiffFiles.l0, h1, if_false]
    have := impl_diff_l1 a b ha hb b.length 0 acc (by omega) (by omega)
    simpa using this
  | succ d ih =>
    intro i acc hi hacc
    have hlt : i < a.length := by omega
    have h1 : (i : Int) < (a.length : Int) := by omega
    have h2 : (0 : Int) ≤ (i : Int) := by omega
    have h3 := next_i hlt (by omega)
    have hg : rd_T40 a (i : Int) = a[i] := rdD_cast _ hlt
    refine Ev.succ ?_
    rw [drop_get hlt, diffA_cons]
    simp only [impl_DiffFiles.l0, h1, h2, h3, if_true, hg, impl_get, Option.bind_some]
    by_cases c : (getM b a[i].f0).2 = true
    · by_cases e : (getM b a[i].f0).1.toList = a[i].f1.toList
      · simp only [c, e, if_true, unlike, decide_true, Bool.and_self, Bool.not_true, Bool.false_eq_true, if_false, List.nil_append]
        exact ih (i + 1) acc (by omega) (by omega)
      · simp only [c, e, if_true, if_false, unlike, decide_false, Bool.and_false, Bool.not_false, show acc.length < 8796093022208 by omega]
        rw [← List.append_assoc]
        exact ih (i + 1) _ (by omega) (by rw [List.length_append, List.length_singleton]; omega)
    · have c' : (getM b a[i].f0).2 = false := by simpa using c
      simp only [c', Bool.false_eq_true, if_false, unlike, Bool.false_and, Bool.not_false, if_true, show acc.length < 8796093022208 by omega]
      rw [← List.append_assoc]
      exact ih (i + 1) _ (by omega) (by rw [List.length_append, List.length_singleton]; omega)
theorem impl_diff (a b : List S40) (ha : a.length ≤ 4194304) (hb : b.length ≤ 4194304) : Ev (fun k => impl_DiffFiles.f k a b) (diffM a b) := by
  unfold impl_DiffFiles.f diffM
  have := impl_diff_l0 a b ha hb a.length 0 [] (by omega) (by simpa using ha)
  simpa using this
end Go.Proofs.Ytpcdhoeoefoeoaa.Pure
