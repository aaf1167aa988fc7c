/- What the marks come to that the laws put into slices of files, and what is held of them. -/
import Derived.Test.YtpcdhoeoefoeoaaGBPureMark
import Derived.Test.YtpcdhoeoefoeoaaPGBx4
set_option linter.unusedVariables false
set_option linter.unusedSimpArgs false
namespace Go.Proofs.Ytpcdhoeoefoeoaa.Pure
open Go.RowKit Go.Proofs.Ytpcdhoeoefoeoaa.PGB Go.Proofs.YtpcdhoeoefoeoaaW.PrintWords Go.Proofs.YtpcdhoeoefoeoaaW.PrintLast Go.Proofs.Ytpcdhoeoefoeoaa.Aux

/-- As many files of marks, one behind the other. -/
noncomputable def mkF (x : Int) : Nat → List S40
  | 0 => []
  | n + 1 => ⟨mkT x, mkT (x + 1)⟩ :: mkF (x + 2) n
theorem mkF_length : ∀ (n : Nat) (x : Int), (mkF x n).length = n
  | 0, _ => rfl
  | n + 1, x => by rw [mkF, List.length_cons, mkF_length n]
theorem mkF_get : ∀ (n : Nat) (x : Int) (i : Nat) (h : i < (mkF x n).length), (mkF x n)[i] = ⟨mkT (x + 2 * i), mkT (x + 2 * i + 1)⟩
  | 0, _, _, h => absurd h (by simp [mkF])
  | n + 1, x, 0, _ => by simp [mkF]
  | n + 1, x, i + 1, h => by
    have := mkF_get n (x + 2) i (by simpa [mkF] using h)
    simp only [mkF, List.getElem_cons_succ, this]
    rw [show x + 2 + 2 * (i : Int) = x + 2 * ((i + 1 : Nat) : Int) by omega]
theorem markFileS_l (n : Nat) (x : Int) (hx0 : 0 ≤ x) (hx : x + 2 * n ≤ 549755813888) (d : Nat) : ∀ (i : Nat) (l : List S40), i + d = n → l.length = n → l.take i = (mkF x n).take i →
    Ev (fun k => laws_markFileS.l0 k l (x + 2 * i) (i : Int)) (x + 2 * n, mkF x n) := by
  induction d with
  | zero =>
    intro i l hi hl he
    obtain rfl : i = n := by omega
    have e : l = mkF x i := by rwa [List.take_of_length_le (by omega), List.take_of_length_le (by rw [mkF_length]; exact Nat.le_refl _)] at he
    subst e
    have h1 : ¬ (i : Int) < ((mkF x i).length : Int) := by omega
    refine Ev.succ ?_
    simp only [laws_markFileS.l0, h1, if_false]
    exact Ev.some
  | succ d ih =>
    intro i l hi hl he
    have h1 : (i : Int) < (l.length : Int) := by omega
    have h2 : (0 : Int) ≤ (i : Int) := by omega
    have h3 := next_i (show i < n by omega) (by omega)
    have h4 : wrap64 (x + 2 * i + 1) = x + 2 * i + 1 := wrap64_id (by omega) (by omega)
    have h5 : wrap64 (x + 2 * i + 1 + 1) = x + 2 * ((i + 1 : Nat) : Int) := by rw [wrap64_id (by omega) (by omega)]; omega
    have hg : ∀ u v : S40, rd_T40 ((l.set i u)) (i : Int) = u := fun u _ => by
      have : rd_T40 (l.set i u) (i : Int) = (l.set i u)[i]'(by rw [List.length_set]; omega) := rdD_cast _ (by rw [List.length_set]; omega)
      rw [this, List.getElem_set_self]
    refine Ev.succ ?_
    simp only [laws_markFileS.l0, h1, if_true]
    refine Ev.bind (markText (x + 2 * i) (by omega)) ?_
    simp only [h2, if_true, Option.bind_some, Int.toNat_natCast, h4]
    refine Ev.bind (markText (x + 2 * i + 1) (by omega)) ?_
    simp only [h3, h5, List.set_set, hg _ z40]
    refine ih (i + 1) _ (by omega) (by simpa using hl) ?_
    have := take_set_step (l := l) (m := mkF x n) (i := i) (by omega) (by rw [mkF_length]; omega) he
    rwa [mkF_get n x i (by rw [mkF_length]; omega)] at this
theorem markFileS (l : List S40) (x : Int) (hx0 : 0 ≤ x) (hx : x + 2 * l.length ≤ 549755813888) : Ev (fun k => laws_markFileS.f k l x) (x + 2 * l.length, mkF x l.length) := by
  unfold laws_markFileS.f
  have := markFileS_l l.length x hx0 hx l.length 0 l (by omega) rfl (by simp)
  simpa using this
end Go.Proofs.Ytpcdhoeoefoeoaa.Pure
