/- The law FnExactSplit's one statement: Split of the program answers as the reference's, and hands back memory of its own. -/
import Derived.Test.YtpmooegakomnbaaDoorSGCFnExactSplit
import Derived.Test.YtpmooegakomnbaaDoorGCPureMark
import Derived.Test.YtpmooegakomnbaaDoorGCPureSplit
set_option linter.unusedVariables false
set_option linter.unusedSimpArgs false
namespace Go.Proofs.YtpmooegakomnbaaDoor.Pure
open Go.RowKit Go.Proofs.YtpmooegakomnbaaDoor.PGC Go.Proofs.YtpmooegakomnbaaDoorW.PrintWords Go.Proofs.YtpmooegakomnbaaDoorW.PrintLast Go.Proofs.YtpmooegakomnbaaDoor.Aux

theorem strOfNums_one (c : UInt8) : strOfNums [(c.toNat : Int)] = ⟨#[c]⟩ := by
  unfold strOfNums
  simp
theorem impl_split (s : ByteArray) (c : UInt8) (hs : s.size ≤ 16777216) : impl_Split.f s (c.toNat : Int) = some (piecesB s ⟨#[c]⟩) := by
  unfold impl_Split.f
  rw [strOfNums_one, strings_split s c hs]
  rfl
theorem FnExactSplit : laws_FnExactSplit.Pure2 := by
  intro s a _ ha
  have ha' := wf_u8 ha
  obtain ⟨c, rfl⟩ : ∃ c : UInt8, a = (c.toNat : Int) := ⟨UInt8.ofNat a.toNat, by
    have h : (UInt8.ofNat a.toNat).toNat = a.toNat % 256 := by simp
    omega⟩
  refine Ev.get ?_
  unfold laws_FnExactSplit.f
  refine Ev.cond (fun _ => Ev.some) fun hs => ?_
  have hs' : s.size ≤ 16777216 := by omega
  have hl := pieces_length (s := s) (sep := ⟨#[c]⟩) (Nat.le_refl _)
  have hneg : ¬ (1 + ((piecesB s ⟨#[c]⟩).length : Int)) < 0 := by omega
  refine Ev.succ ?_
  simp only [laws_FnExactSplit.j0]
  refine Ev.bind (spec_split s c hs') ?_
  simp only [impl_split s c hs', Option.bind_some]
  refine Ev.bind (eqStringS _ _ (by omega)) ?_
  simp only [decide_true, if_true]
  refine Ev.succ ?_
  simp only [laws_FnExactSplit.j1]
  refine Ev.bind (markStringS _ 1 (by omega) (by omega)) (Ev.bind (heldStringS 1 _ (by omega) (by omega)) ?_)
  simp only [hneg, if_false]
  refine Ev.succ ?_
  simp only [laws_FnExactSplit.j2, if_true]
  refine Ev.succ ?_
  simp only [laws_FnExactSplit.j3, impl_split s c hs', Option.bind_some]
  refine Ev.bind (eqStringS _ _ (by omega)) ?_
  simp only [decide_true, if_true]
  refine Ev.succ ?_
  simp only [laws_FnExactSplit.j4]
  refine Ev.bind (heldStringS 1 _ (by omega) (by omega)) ?_
  simp only [hneg, if_false, if_true]
  exact Ev.some
end Go.Proofs.YtpmooegakomnbaaDoor.Pure
