/- What Split comes to, of the reference and of the program: the pieces of the text. -/
import Derived.Test.YtpmooegakomnbaaDoorGEPureParts
import Derived.Test.YtpmooegakomnbaaDoorPGEx1
import Derived.Test.YtpmooegakomnbaaDoorPGEx2
set_option linter.unusedVariables false
set_option linter.unusedSimpArgs false
namespace Go.Proofs.YtpmooegakomnbaaDoor.Pure
open Go.RowKit Go.Proofs.YtpmooegakomnbaaDoor.PGE Go.Proofs.YtpmooegakomnbaaDoorW.PrintWords Go.Proofs.YtpmooegakomnbaaDoorW.PrintLast Go.Proofs.YtpmooegakomnbaaDoor.Aux

theorem spec_split_l (s : ByteArray) (c : UInt8) (hs : s.size ≤ 16777216) (d : Nat) : ∀ (i fr : Nat) (out : List ByteArray), i + d = s.size → fr ≤ i → out.length ≤ i →
    Ev (fun k => spec_Split.l0 k s (c.toNat : Int) out (fr : Int) (i : Int)) (out ++ (glue ((s.data.toList.drop fr).take (i - fr)) (Lib.split (s.data.toList.drop i) [c])).map ofL) := by
  induction d with
  | zero =>
    intro i fr out hi hf ho
    obtain rfl : i = s.size := by omega
    have h3 := wrap64_id (i := (s.size : Int) + 1) (by omega) (by omega)
    have hd : s.data.toList.drop s.size = [] := List.drop_eq_nil_of_le (by simp)
    refine Ev.succ ?_
    simp only [spec_Split.l0, Int.le_refl, if_true, show (0 : Int) ≤ (fr : Int) by omega, show (fr : Int) ≤ (s.size : Int) by omega, show out.length < 8796093022208 by omega, h3]
    refine Ev.succ ?_
    simp only [spec_Split.l0, show ¬ ((s.size : Int) + 1 ≤ (s.size : Int)) by omega, if_false]
    refine Ev.cast Ev.some ?_
    rw [hd, split_nil (by simp)]
    simp only [glue, List.append_nil, List.map_cons, List.map_nil, Int.toNat_natCast, extract_ofL]
  | succ d ih =>
    intro i fr out hi hf ho
    have hlt : i < s.size := by omega
    have h3 := next_i hlt (by omega)
    obtain ⟨b, hb, hbt, hg⟩ := data_drop hlt
    refine Ev.succ ?_
    simp only [spec_Split.l0, show (i : Int) ≤ (s.size : Int) by omega, show ¬ (i : Int) = (s.size : Int) by omega, show (0 : Int) ≤ (i : Int) by omega, show (i : Int) < (s.size : Int) by omega, if_true, if_false, h3, hbt]
    by_cases h : b = c
    · subst h
      simp only [show (0 : Int) ≤ (fr : Int) by omega, show (fr : Int) ≤ (i : Int) by omega, show out.length < 8796093022208 by omega, if_true]
      refine Ev.cast (ih (i + 1) (i + 1) _ (by omega) (by omega) (by simp; omega)) ?_
      rw [hb, split_one_at, Nat.sub_self, List.take_zero, glue_nil (split_ne _ _)]
      simp only [glue, List.append_nil, List.map_cons, List.append_assoc, List.singleton_append, Int.toNat_natCast, extract_ofL]
    · have hne : ¬ ((b.toNat : Int) = (c.toNat : Int)) := fun e => h (UInt8.toNat_inj.1 (by omega))
      simp only [hne, if_false]
      refine Ev.cast (ih (i + 1) fr out (by omega) (by omega) (by omega)) ?_
      rw [hb, split_one_by _ h, glue_glue _ _ _ (split_ne _ _)]
      congr 3
      have hx : (s.data.toList.drop fr)[i - fr]? = some b := by rw [List.getElem?_drop, show fr + (i - fr) = i by omega, hg]
      rw [show i + 1 - fr = (i - fr) + 1 by omega, List.take_add_one, hx]
      rfl
theorem spec_split (s : ByteArray) (c : UInt8) (hs : s.size ≤ 16777216) : Ev (fun k => spec_Split.f k s (c.toNat : Int)) (piecesB s ⟨#[c]⟩) := by
  unfold spec_Split.f
  refine Ev.cast (spec_split_l s c hs s.size 0 0 [] (by omega) (by omega) (by simp)) ?_
  rw [List.nil_append, List.drop_zero, Nat.sub_self, List.take_zero, glue_nil (split_ne _ _)]
  rfl
theorem strings_split (s : ByteArray) (c : UInt8) (hs : s.size ≤ 16777216) : strings_Split.f s ⟨#[c]⟩ = some (piecesB s ⟨#[c]⟩) := by
  unfold strings_Split.f
  rw [if_pos ⟨by omega, by show 1 ≤ 1; omega⟩, splitB_pieces]
end Go.Proofs.YtpmooegakomnbaaDoor.Pure
