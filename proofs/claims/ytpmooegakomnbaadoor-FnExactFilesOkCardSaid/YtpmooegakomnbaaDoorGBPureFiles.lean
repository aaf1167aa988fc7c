/- What FilesOk comes to, of the reference and of the program. -/
import Derived.Test.YtpmooegakomnbaaDoorGBPurePath
import Derived.Test.YtpmooegakomnbaaDoorPGBx2
import Derived.Test.YtpmooegakomnbaaDoorPGBx4
set_option linter.unusedVariables false
set_option linter.unusedSimpArgs false
namespace Go.Proofs.YtpmooegakomnbaaDoor.Pure
open Go.RowKit Go.Proofs.YtpmooegakomnbaaDoor.PGB Go.Proofs.YtpmooegakomnbaaDoorW.PrintWords Go.Proofs.YtpmooegakomnbaaDoorW.PrintLast Go.Proofs.YtpmooegakomnbaaDoor.Aux

def fileB (x : S44) : Bool := pathB x.f0 && !decide ((x.f1.size : Int) > 60)
/-- From a file on: each is right, and behind the one ahead of it. -/
def filesFrom : Option ByteArray → List S44 → Bool
  | _, [] => true
  | p, x :: r => fileB x && ((match p with | none => true | some q => Op.bytesLess q.toList x.f0.toList) && filesFrom (some x.f0) r)
def filesB (l : List S44) : Bool := filesFrom none l && decide ((l.length : Int) ≤ 30)
def prevOf (l : List S44) (i : Nat) : Option ByteArray := if i = 0 then none else some (l.getD (i - 1) ⟨⟨#[]⟩, ⟨#[]⟩⟩).f0
theorem prev_next {l : List S44} {i : Nat} (h : i < l.length) : prevOf l (i + 1) = some l[i].f0 := by
  unfold prevOf
  rw [if_neg (by omega), Nat.add_sub_cancel, List.getD_eq_getElem?_getD, List.getElem?_eq_getElem h]
  rfl

theorem spec_files_l (l : List S44) (hl : l.length ≤ 9223372036854775807) (hs : ∀ x ∈ l, x.f0.size ≤ 16777216) (d : Nat) : ∀ i : Nat, i + d = l.length → Ev (fun k => spec_FilesOk.l0 k l (i : Int)) (filesFrom (prevOf l i) (l.drop i) && decide ((l.length : Int) ≤ 30)) := by
  induction d with
  | zero =>
    intro i hi
    have h1 : ¬ (i : Int) < (l.length : Int) := by omega
    refine Ev.succ ?_
    rw [List.drop_eq_nil_of_le (by omega)]
    simp only [spec_FilesOk.l0, h1, if_false, filesFrom, Bool.true_and]
    exact Ev.some
  | succ d ih =>
    intro i hi
    have hlt : i < l.length := by omega
    have h1 : (i : Int) < (l.length : Int) := by omega
    have h2 : (0 : Int) ≤ (i : Int) := by omega
    have h3 := next_i hlt hl
    have ih' := ih (i + 1) (by omega)
    rw [prev_next hlt] at ih'
    have hg : rd_T44 l (i : Int) = l[i] := rdD_cast _ hlt
    refine Ev.succ ?_
    rw [drop_get hlt]
    simp only [spec_FilesOk.l0, h1, h2, h3, if_true, hg, filesFrom, fileB]
    refine Ev.bind (spec_path l[i].f0 (hs _ (List.getElem_mem hlt))) ?_
    cases hp : pathB l[i].f0 with
    | false => simpa using Ev.some
    | true =>
      simp only [if_true, Bool.true_and]
      by_cases hz : (l[i].f1.size : Int) > 60
      · simpa [hz] using Ev.some
      · simp only [hz, if_false, decide_false, Bool.not_false, Bool.true_and]
        by_cases h0 : i = 0
        · subst h0
          simpa [prevOf] using ih'
        · have hp0 : (i : Int) > 0 := by omega
          have hw : wrap64 ((i : Int) - 1) = ((i - 1 : Nat) : Int) := by rw [wrap64_id (by omega) (by omega)]; omega
          have hgp : rd_T44 l ((i - 1 : Nat) : Int) = l[i - 1] := rdD_cast _ (by omega)
          have hpv : prevOf l i = some l[i - 1].f0 := by
            have := prev_next (l := l) (i := i - 1) (by omega)
            rwa [Nat.sub_add_cancel (by omega)] at this
          simp only [hp0, if_true, hw, show (0 : Int) ≤ ((i - 1 : Nat) : Int) by omega, show ((i - 1 : Nat) : Int) < (l.length : Int) by omega, hgp, hpv]
          cases hb : Op.bytesLess l[i - 1].f0.toList l[i].f0.toList with
          | true => simpa using ih'
          | false => simpa using Ev.some
theorem spec_files (l : List S44) (hl : l.length ≤ 9223372036854775807) (hs : ∀ x ∈ l, x.f0.size ≤ 16777216) : Ev (fun k => spec_FilesOk.f k l) (filesB l) := spec_files_l l hl hs l.length 0 (by omega)

theorem impl_files_l (l : List S44) (hl : l.length ≤ 9223372036854775807) (hs : ∀ x ∈ l, x.f0.size ≤ 16777216) (d : Nat) : ∀ i : Nat, i + d = l.length → Ev (fun k => impl_FilesOk.l0 k l l (l.length : Int) (i : Int)) (filesFrom (prevOf l i) (l.drop i) && decide ((l.length : Int) ≤ 30)) := by
  induction d with
  | zero =>
    intro i hi
    have h1 : ¬ (i : Int) < (l.length : Int) := by omega
    refine Ev.succ ?_
    rw [List.drop_eq_nil_of_le (by omega)]
    simp only [impl_FilesOk.l0, h1, if_false, filesFrom, Bool.true_and]
    exact Ev.some
  | succ d ih =>
    intro i hi
    have hlt : i < l.length := by omega
    have h1 : (i : Int) < (l.length : Int) := by omega
    have h2 : (0 : Int) ≤ (i : Int) := by omega
    have h3 := next_i hlt hl
    have ih' := ih (i + 1) (by omega)
    rw [prev_next hlt] at ih'
    have hg : rd_T44 l (i : Int) = l[i] := rdD_cast _ hlt
    refine Ev.succ ?_
    rw [drop_get hlt]
    simp only [impl_FilesOk.l0, h1, h2, h3, if_true, hg, filesFrom, fileB]
    refine Ev.bind (impl_path l[i].f0 (hs _ (List.getElem_mem hlt))) ?_
    cases hp : pathB l[i].f0 with
    | false => simpa using Ev.some
    | true =>
      simp only [if_true, Bool.true_and]
      by_cases hz : (l[i].f1.size : Int) > 60
      · simpa [hz] using Ev.some
      · simp only [hz, if_false, decide_false, Bool.not_false, Bool.true_and]
        by_cases h0 : i = 0
        · subst h0
          simpa [prevOf] using ih'
        · have hp0 : (i : Int) > 0 := by omega
          have hw : wrap64 ((i : Int) - 1) = ((i - 1 : Nat) : Int) := by rw [wrap64_id (by omega) (by omega)]; omega
          have hgp : rd_T44 l ((i - 1 : Nat) : Int) = l[i - 1] := rdD_cast _ (by omega)
          have hpv : prevOf l i = some l[i - 1].f0 := by
            have := prev_next (l := l) (i := i - 1) (by omega)
            rwa [Nat.sub_add_cancel (by omega)] at this
          simp only [hp0, if_true, hw, show (0 : Int) ≤ ((i - 1 : Nat) : Int) by omega, show ((i - 1 : Nat) : Int) < (l.length : Int) by omega, hgp, hpv]
          cases hb : Op.bytesLess l[i - 1].f0.toList l[i].f0.toList with
          | true => simpa using ih'
          | false => simpa using Ev.some
theorem impl_files (l : List S44) (hl : l.length ≤ 9223372036854775807) (hs : ∀ x ∈ l, x.f0.size ≤ 16777216) : Ev (fun k => impl_FilesOk.f k l) (filesB l) := impl_files_l l hl hs l.length 0 (by omega)
end Go.Proofs.YtpmooegakomnbaaDoor.Pure
