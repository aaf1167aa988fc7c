/- What PathOk comes to, of the reference and of the program. -/
import Derived.Test.YtpmooegakomnbaaDoorGBPureChars
import Derived.Test.YtpmooegakomnbaaDoorGBPureSplit
import Derived.Test.YtpmooegakomnbaaDoorPGBx1
import Derived.Test.YtpmooegakomnbaaDoorPGBx3
set_option linter.unusedVariables false
set_option linter.unusedSimpArgs false
namespace Go.Proofs.YtpmooegakomnbaaDoor.Pure
open Go.RowKit Go.Proofs.YtpmooegakomnbaaDoor.PGB Go.Proofs.YtpmooegakomnbaaDoorW.PrintWords Go.Proofs.YtpmooegakomnbaaDoorW.PrintLast Go.Proofs.YtpmooegakomnbaaDoor.Aux

def pathC (x : Int) : Bool := smallB x || (digitB x || (decide (x = 46) || (decide (x = 45) || decide (x = 95))))
theorem letter_spec {x : Int} (h : 0 ≤ x ∧ x ≤ 255) : spec_l5Letter.f x = some (pathC x) := by
  unfold spec_l5Letter.f pathC
  simp only [small_spec h, digit_spec h, Option.bind_some]
  cases smallB x <;> cases digitB x <;> simp
  by_cases h1 : x = 46 <;> by_cases h2 : x = 45 <;> simp [h1, h2]
  rfl
theorem letter_impl (x : Int) : impl_isPathByte.f x = some (pathC x) := by
  unfold impl_isPathByte.f pathC
  simp only [small_impl, digit_impl, Option.bind_some]
  cases smallB x <;> cases digitB x <;> simp
  by_cases h1 : x = 46 <;> by_cases h2 : x = 45 <;> simp [h1, h2]
  rfl
def nameEnd (s : ByteArray) : Bool := inB s.size 1 12 && (!decide (s.toList = ([46] : List UInt8)) && (s.toList != ([46, 46] : List UInt8)))
def fnameB (s : ByteArray) : Bool := (bs s).all pathC && nameEnd s
theorem spec_fname_l (s : ByteArray) (hs : s.size ≤ 9223372036854775807) (d : Nat) : ∀ i : Nat, i + d = s.size → Ev (fun k => spec_l5Name.l0 k s (i : Int)) (((bs s).drop i).all pathC && nameEnd s) := by
  induction d with
  | zero =>
    intro i hi
    have h1 : ¬ (i : Int) < (s.size : Int) := by omega
    refine Ev.succ ?_
    simp only [spec_l5Name.l0, h1, if_false, bs_end (show s.size ≤ i by omega), List.all_nil, Bool.true_and, in_f, Option.bind_some, nameEnd]
    cases hb : inB (s.size : Int) 1 12 with
    | false => simpa using Ev.some
    | true =>
      simp only [if_true]
      by_cases h : s.toList = ([46] : List UInt8)
      · simpa [h] using Ev.some
      · simpa [h] using Ev.some
  | succ d ih =>
    intro i hi
    have h1 : (i : Int) < (s.size : Int) := by omega
    have h2 : (0 : Int) ≤ (i : Int) := by omega
    have h3 := next_i (show i < s.size by omega) hs
    have ih' := ih (i + 1) (by omega)
    refine Ev.succ ?_
    rw [bs_drop (by omega), List.all_cons]
    simp only [spec_l5Name.l0, h1, h2, h3, if_true, letter_spec (bt_range s i), Option.bind_some]
    cases hp : pathC (bt s (i : Int)) with
    | true => simpa using ih'
    | false => simpa using Ev.some
theorem spec_fname (s : ByteArray) (hs : s.size ≤ 9223372036854775807) : Ev (fun k => spec_l5Name.f k s) (fnameB s) := spec_fname_l s hs s.size 0 (by omega)
theorem impl_fname_l (s : ByteArray) (hs : s.size ≤ 9223372036854775807) (d : Nat) : ∀ i : Nat, i + d = s.size → Ev (fun k => impl_fileNameOk.l0 k s (i : Int)) (((bs s).drop i).all pathC && nameEnd s) := by
  induction d with
  | zero =>
    intro i hi
    have h1 : ¬ (i : Int) < (s.size : Int) := by omega
    refine Ev.succ ?_
    simp only [impl_fileNameOk.l0, h1, if_false, bs_end (show s.size ≤ i by omega), List.all_nil, Bool.true_and, inRange_f, Option.bind_some, nameEnd]
    cases hb : inB (s.size : Int) 1 12 with
    | false => simpa using Ev.some
    | true =>
      simp only [if_true]
      by_cases h : s.toList = ([46] : List UInt8)
      · simpa [h] using Ev.some
      · simpa [h] using Ev.some
  | succ d ih =>
    intro i hi
    have h1 : (i : Int) < (s.size : Int) := by omega
    have h2 : (0 : Int) ≤ (i : Int) := by omega
    have h3 := next_i (show i < s.size by omega) hs
    have ih' := ih (i + 1) (by omega)
    refine Ev.succ ?_
    rw [bs_drop (by omega), List.all_cons]
    simp only [impl_fileNameOk.l0, h1, h2, h3, if_true, letter_impl, Option.bind_some]
    cases hp : pathC (bt s (i : Int)) with
    | true => simpa using ih'
    | false => simpa using Ev.some
theorem impl_fname (s : ByteArray) (hs : s.size ≤ 9223372036854775807) : Ev (fun k => impl_fileNameOk.f k s) (fnameB s) := impl_fname_l s hs s.size 0 (by omega)

def slash : ByteArray := ⟨#[47]⟩
def pathB (s : ByteArray) : Bool := (piecesB s slash).all fnameB && decide (((piecesB s slash).length : Int) ≤ 4)
theorem spec_path_l (l : List ByteArray) (hl : l.length ≤ 9223372036854775807) (hs : ∀ x ∈ l, x.size ≤ 9223372036854775807) (d : Nat) : ∀ i : Nat, i + d = l.length → Ev (fun k => spec_PathOk.l0 k l (i : Int)) ((l.drop i).all fnameB && decide ((l.length : Int) ≤ 4)) := by
  induction d with
  | zero =>
    intro i hi
    have h1 : ¬ (i : Int) < (l.length : Int) := by omega
    refine Ev.succ ?_
    rw [List.drop_eq_nil_of_le (by omega)]
    simp only [spec_PathOk.l0, h1, if_false, List.all_nil, Bool.true_and]
    exact Ev.some
  | succ d ih =>
    intro i hi
    have hlt : i < l.length := by omega
    have h1 : (i : Int) < (l.length : Int) := by omega
    have h2 : (0 : Int) ≤ (i : Int) := by omega
    have h3 := next_i hlt hl
    have ih' := ih (i + 1) (by omega)
    refine Ev.succ ?_
    rw [drop_get hlt, List.all_cons]
    simp only [spec_PathOk.l0, h1, h2, h3, if_true, rdOf_cast _ hlt]
    refine Ev.bind (spec_fname l[i] (hs _ (List.getElem_mem hlt))) ?_
    cases hp : fnameB l[i] with
    | true => simpa using ih'
    | false => simpa using Ev.some
theorem impl_path_l (l : List ByteArray) (hl : l.length ≤ 9223372036854775807) (hs : ∀ x ∈ l, x.size ≤ 9223372036854775807) (d : Nat) : ∀ i : Nat, i + d = l.length → Ev (fun k => impl_PathOk.l0 k l l (l.length : Int) (i : Int)) ((l.drop i).all fnameB && decide ((l.length : Int) ≤ 4)) := by
  induction d with
  | zero =>
    intro i hi
    have h1 : ¬ (i : Int) < (l.length : Int) := by omega
    refine Ev.succ ?_
    rw [List.drop_eq_nil_of_le (by omega)]
    simp only [impl_PathOk.l0, h1, if_false, List.all_nil, Bool.true_and]
    exact Ev.some
  | succ d ih =>
    intro i hi
    have hlt : i < l.length := by omega
    have h1 : (i : Int) < (l.length : Int) := by omega
    have h2 : (0 : Int) ≤ (i : Int) := by omega
    have h3 := next_i hlt hl
    have ih' := ih (i + 1) (by omega)
    refine Ev.succ ?_
    rw [drop_get hlt, List.all_cons]
    simp only [impl_PathOk.l0, h1, h2, h3, if_true, rdOf_cast _ hlt]
    refine Ev.bind (impl_fname l[i] (hs _ (List.getElem_mem hlt))) ?_
    cases hp : fnameB l[i] with
    | true => simpa using ih'
    | false => simpa using Ev.some
theorem slash_pieces {s : ByteArray} (hs : s.size ≤ 16777216) : (piecesB s slash).length ≤ 9223372036854775807 ∧ ∀ x ∈ piecesB s slash, x.size ≤ 9223372036854775807 := by
  have h := pieces_length (s := s) (sep := slash) (Nat.le_refl _)
  exact ⟨by omega, fun x hx => by have := pieces_mem (sep := slash) (by simp [slash]) x hx; omega⟩
theorem spec_path (s : ByteArray) (hs : s.size ≤ 16777216) : Ev (fun k => spec_PathOk.f k s) (pathB s) := by
  unfold spec_PathOk.f
  have h := slash_pieces hs
  refine Ev.bind (spec_split s 47 hs) ?_
  exact spec_path_l _ h.1 h.2 _ 0 (Nat.zero_add _)
theorem impl_path (s : ByteArray) (hs : s.size ≤ 16777216) : Ev (fun k => impl_PathOk.f k s) (pathB s) := by
  unfold impl_PathOk.f
  have h := slash_pieces hs
  rw [strings_split s 47 hs]
  simp only [Option.bind_some]
  exact impl_path_l _ h.1 h.2 _ 0 (Nat.zero_add _)
end Go.Proofs.YtpmooegakomnbaaDoor.Pure
