/- What FindPack comes to, of the reference and of the program. -/
import Derived.Test.YtfbbagddhfeefaaAux
import Derived.Test.YtfbbagddhfeefaaPGAx4
import Derived.Test.YtfbbagddhfeefaaPGAx5
set_option linter.unusedVariables false
set_option linter.unusedSimpArgs false
namespace Go.Proofs.Ytfbbagddhfeefaa.Pure
open Go.RowKit Go.Proofs.Ytfbbagddhfeefaa.PGA Go.Proofs.YtfbbagddhfeefaaW.PrintWords Go.Proofs.YtfbbagddhfeefaaW.PrintLast Go.Proofs.Ytfbbagddhfeefaa.Aux

def pAt (l : List S96) (a : ByteArray) (i : Nat) : Int := impl_FindPack_idx (fun x => x.f0.toList == a.toList) l i

theorem pAt_range (l : List S96) (a : ByteArray) (i : Nat) : pAt l a i = -1 ∨ (0 ≤ pAt l a i ∧ pAt l a i < l.length) := by
  unfold pAt impl_FindPack_idx
  cases h : (l.drop i).findIdx? (fun x => x.f0.toList == a.toList) with
  | none => exact .inl rfl
  | some j =>
    right
    have := List.findIdx?_eq_some_iff_findIdx_eq.1 h
    rw [List.length_drop] at this
    simp only
    omega

theorem spec_find_l (l : List S96) (a : ByteArray) (hl : l.length ≤ 9223372036854775807) (d : Nat) : ∀ i : Nat, i + d = l.length → Ev (fun k => spec_FindPack.l0 k l a (i : Int)) (pAt l a i) := by
  induction d with
  | zero =>
    intro i hi
    have h1 : ¬ (i : Int) < (l.length : Int) := by omega
    refine Ev.succ ?_
    simp only [spec_FindPack.l0, h1, if_false]
    exact Ev.cast Ev.some (impl_FindPack_idx_end _ l i (by omega)).symm
  | succ d ih =>
    intro i hi
    have hlt : i < l.length := by omega
    have h1 : (i : Int) < (l.length : Int) := by omega
    have h2 : (0 : Int) ≤ (i : Int) := by omega
    have h3 := next_i hlt hl
    have hg : rd_T96 l (i : Int) = l[i] := rdD_cast _ hlt
    refine Ev.succ ?_
    simp only [spec_FindPack.l0, h1, h2, h3, if_true, hg]
    by_cases h : l[i].f0.toList = a.toList
    · simp only [h, if_true]
      exact Ev.cast Ev.some (impl_FindPack_idx_hit _ l i hlt (by simp [h])).symm
    · simp only [h, if_false]
      exact Ev.cast (ih (i + 1) (by omega)) (impl_FindPack_idx_step _ l i hlt (by simp [h])).symm

theorem spec_find (l : List S96) (a : ByteArray) (hl : l.length ≤ 9223372036854775807) : Ev (fun k => spec_FindPack.f k l a) (pAt l a 0) := by
  unfold spec_FindPack.f
  exact spec_find_l l a hl l.length 0 (by omega)
theorem impl_find (l : List S96) (a : ByteArray) : impl_FindPack.f l a = some (pAt l a 0) := rfl

end Go.Proofs.Ytfbbagddhfeefaa.Pure
