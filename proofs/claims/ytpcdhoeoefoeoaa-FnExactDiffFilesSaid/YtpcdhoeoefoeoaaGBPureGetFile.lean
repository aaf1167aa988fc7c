/- What GetFile comes to, of the reference and of the program. -/
import Derived.Test.YtpcdhoeoefoeoaaAux
import Derived.Test.YtpcdhoeoefoeoaaPGBx1
import Derived.Test.YtpcdhoeoefoeoaaPGBx2
set_option linter.unusedVariables false
set_option linter.unusedSimpArgs false
namespace Go.Proofs.Ytpcdhoeoefoeoaa.Pure
open Go.RowKit Go.Proofs.Ytpcdhoeoefoeoaa.PGB Go.Proofs.YtpcdhoeoefoeoaaW.PrintWords Go.Proofs.YtpcdhoeoefoeoaaW.PrintLast Go.Proofs.Ytpcdhoeoefoeoaa.Aux

def fAt (l : List S40) (a : ByteArray) (i : Nat) : Int := impl_fileAt_idx (fun x => x.f0.toList == a.toList) l i

theorem fAt_range (l : List S40) (a : ByteArray) (i : Nat) : fAt l a i = -1 ∨ (0 ≤ fAt l a i ∧ fAt l a i < l.length) := by
  unfold fAt impl_fileAt_idx
  cases h : (l.drop i).findIdx? (fun x => x.f0.toList == a.toList) with
  | none => exact .inl rfl
  | some j =>
    right
    have := List.findIdx?_eq_some_iff_findIdx_eq.1 h
    rw [List.length_drop] at this
    simp only
    omega

theorem spec_at_l (l : List S40) (a : ByteArray) (hl : l.length ≤ 9223372036854775807) (d : Nat) : ∀ i : Nat, i + d = l.length → Ev (fun k => spec_l5At.l0 k l a (i : Int)) (fAt l a i) := by
  induction d with
  | zero =>
    intro i hi
    have h1 : ¬ (i : Int) < (l.length : Int) := by omega
    refine Ev.succ ?_
    simp only [spec_l5At.l0, h1, if_false]
    exact Ev.cast Ev.some (impl_fileAt_idx_end _ l i (by omega)).symm
  | succ d ih =>
    intro i hi
    have hlt : i < l.length := by omega
    have h1 : (i : Int) < (l.length : Int) := by omega
    have h2 : (0 : Int) ≤ (i : Int) := by omega
    have h3 := next_i hlt hl
    have hg : rd_T40 l (i : Int) = l[i] := rdD_cast _ hlt
    refine Ev.succ ?_
    simp only [spec_l5At.l0, h1, h2, h3, if_true, hg]
    by_cases h : l[i].f0.toList = a.toList
    · simp only [h, if_true]
      exact Ev.cast Ev.some (impl_fileAt_idx_hit _ l i hlt (by simp [h])).symm
    · simp only [h, if_false]
      exact Ev.cast (ih (i + 1) (by omega)) (impl_fileAt_idx_step _ l i hlt (by simp [h])).symm

def getM (l : List S40) (a : ByteArray) : ByteArray × Bool := if fAt l a 0 < 0 then ((⟨#[]⟩ : ByteArray), false) else ((rd_T40 l (fAt l a 0)).f1, true)

theorem spec_get (l : List S40) (a : ByteArray) (hl : l.length ≤ 9223372036854775807) : Ev (fun k => spec_GetFile.f k l a) (getM l a) := by
  unfold spec_GetFile.f spec_l5At.f getM
  refine Ev.bind (spec_at_l l a hl l.length 0 (by omega)) ?_
  rcases fAt_range l a 0 with h | ⟨h0, h1⟩
  · rw [h]; exact Ev.some
  · simp only [show ¬ fAt l a 0 < 0 by omega, h0, h1, if_true, if_false]
    exact Ev.some
theorem impl_get (l : List S40) (a : ByteArray) : impl_GetFile.f l a = some (getM l a) := by
  unfold impl_GetFile.f impl_fileAt.f getM
  show (some (fAt l a 0)).bind _ = _
  rw [Option.bind_some]
  rcases fAt_range l a 0 with h | ⟨h0, h1⟩
  · rw [h]; rfl
  · simp only [show ¬ fAt l a 0 < 0 by omega, h0, h1, if_true, if_false]
end Go.Proofs.Ytpcdhoeoefoeoaa.Pure
