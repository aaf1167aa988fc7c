/- What a text comes to when it is split: one piece behind the other. -/
import Derived.Test.YtpmooegakomnbaaDoorAux
import Derived.Lib.SplitLaws
set_option linter.unusedVariables false
set_option linter.unusedSimpArgs false
namespace Go.Proofs.YtpmooegakomnbaaDoor.Pure
open Go.RowKit Go.Proofs.YtpmooegakomnbaaDoor.Aux Go.Proofs.YtpmooegakomnbaaDoorW.PrintWords

theorem Ev.yes {α : Type} {c : Prop} [Decidable c] {g f : Nat → Option α} {r : α} (hc : c) (h : Ev g r) : Ev (fun k => if c then g k else f k) r := by
  simpa only [hc, if_true] using h
theorem Ev.no {α : Type} {c : Prop} [Decidable c] {g f : Nat → Option α} {r : α} (hc : ¬ c) (h : Ev f r) : Ev (fun k => if c then g k else f k) r := by
  simpa only [hc, if_false] using h
/-- The bytes u ahead of the first piece. -/
def glue (u : List UInt8) : List (List UInt8) → List (List UInt8)
  | [] => [u]
  | p :: ps => (u ++ p) :: ps
theorem glue_nil : ∀ {l : List (List UInt8)}, l ≠ [] → glue [] l = l
  | [], h => absurd rfl h
  | _ :: _, _ => rfl
theorem glue_glue (u v : List UInt8) : ∀ l : List (List UInt8), l ≠ [] → glue u (glue v l) = glue (u ++ v) l
  | [], h => absurd rfl h
  | p :: ps, _ => by simp [glue]
theorem glue_ne (u : List UInt8) : ∀ l, glue u l ≠ []
  | [] => by simp [glue]
  | _ :: _ => by simp [glue]

theorem split_miss {s sep : List UInt8} (h : Lib.index s sep = -1) : Lib.split s sep = [s] := by
  unfold Lib.split
  rw [Lib.count_miss h]
  rfl
theorem split_hit {s sep : List UInt8} {i : Nat} (h1 : sep ≠ []) (h : Lib.index s sep = i) : Lib.split s sep = s.take i :: Lib.split (s.drop (i + sep.length)) sep := by
  unfold Lib.split
  rw [Lib.count_hit h1 h, Nat.add_comm]
  have hm : ¬ (Lib.index s sep == -1) = true := fun e => by have := beq_iff_eq.1 e; omega
  have e : (Lib.index s sep).toNat = i := by omega
  rw [Lib.splitK, if_neg hm, e]
  rfl
theorem split_ne (s sep : List UInt8) : Lib.split s sep ≠ [] := by
  unfold Lib.split
  cases Lib.count s sep with
  | zero => simp [Lib.splitK]
  | succ k =>
    unfold Lib.splitK
    split <;> simp
theorem split_nil {sep : List UInt8} (h1 : sep ≠ []) : Lib.split [] sep = [[]] := by
  refine split_miss ?_
  cases sep with
  | nil => exact absurd rfl h1
  | cons a b => rfl
theorem split_at {s sep : List UInt8} (h1 : sep ≠ []) (h : sep.isPrefixOf s = true) : Lib.split s sep = [] :: Lib.split (s.drop sep.length) sep := by
  have hi : Lib.index s sep = ((0 : Nat) : Int) := by
    cases s with
    | nil =>
      cases sep with
      | nil => exact absurd rfl h1
      | cons a b => simp at h
    | cons b l => unfold Lib.index; rw [if_pos h]; rfl
  rw [split_hit h1 hi]
  simp
theorem split_by {b : UInt8} {l sep : List UInt8} (h1 : sep ≠ []) (h : sep.isPrefixOf (b :: l) = false) : Lib.split (b :: l) sep = glue [b] (Lib.split l sep) := by
  have hx : Lib.index (b :: l) sep = if Lib.index l sep == -1 then -1 else Lib.index l sep + 1 := by rw [Lib.index, h]; simp
  by_cases hm : Lib.index l sep = -1
  · rw [split_miss hm, split_miss (by rw [hx, if_pos (beq_iff_eq.2 hm)])]
    rfl
  · have hge := Lib.index_ge l sep
    obtain ⟨j, hj⟩ : ∃ j : Nat, Lib.index l sep = j := ⟨(Lib.index l sep).toNat, by omega⟩
    have hx' : Lib.index (b :: l) sep = ((j + 1 : Nat) : Int) := by rw [hx, if_neg (fun e => hm (beq_iff_eq.1 e)), hj]; omega
    rw [split_hit h1 hj, split_hit h1 hx']
    simp [glue, Nat.add_right_comm]

theorem split_one_at (c : UInt8) (l : List UInt8) : Lib.split (c :: l) [c] = [] :: Lib.split l [c] := by
  rw [split_at (sep := [c]) (by simp) (by unfold List.isPrefixOf; simp)]
  rfl
theorem split_one_by {b c : UInt8} (l : List UInt8) (h : ¬ b = c) : Lib.split (b :: l) [c] = glue [b] (Lib.split l [c]) :=
  split_by (by simp) (by
    unfold List.isPrefixOf
    rw [show (c == b) = false from by simpa using fun e => h e.symm]
    rfl)

/-- A text of bytes. -/
def ofL (l : List UInt8) : ByteArray := ⟨l.toArray⟩
theorem ofL_data (s : ByteArray) : ofL s.data.toList = s := by cases s; simp [ofL]
theorem data_ofL (l : List UInt8) : (ofL l).data.toList = l := by simp [ofL]
theorem ofL_size (l : List UInt8) : (ofL l).size = l.length := by simp [ofL, ByteArray.size]
/-- The pieces of a text. -/
def piecesB (s sep : ByteArray) : List ByteArray := (Lib.split s.data.toList sep.data.toList).map ofL
theorem splitB_pieces (s sep : ByteArray) : Lib.splitB sep 0 (Lib.countB s sep) s = piecesB s sep := by
  have h := Lib.splitB_data sep 0 (Lib.countB s sep) s
  unfold piecesB Lib.split
  rw [← h, List.map_map]
  conv => lhs; rw [← List.map_id (Lib.splitB sep 0 (Lib.countB s sep) s)]
  exact List.map_congr_left (fun x _ => by simp [ofL_data])
theorem extract_ofL (s : ByteArray) (a b : Nat) : s.extract a b = ofL ((s.data.toList.drop a).take (b - a)) := by
  rw [← ofL_data (s.extract a b), Lib.extract_data]
theorem data_drop {s : ByteArray} {i : Nat} (h : i < s.size) : ∃ b : UInt8, s.data.toList.drop i = b :: s.data.toList.drop (i + 1) ∧ bt s (i : Int) = (b.toNat : Int) ∧ s.data.toList[i]? = some b := by
  have hl : i < s.data.toList.length := by simpa using h
  refine ⟨s.data.toList[i], List.drop_eq_getElem_cons hl, ?_, List.getElem?_eq_getElem hl⟩
  rw [bt_bs]
  unfold bs
  rw [List.getD_eq_getElem?_getD, Int.toNat_natCast, List.getElem?_map, List.getElem?_eq_getElem hl]
  rfl
/-- How many pieces, and how long each is. -/
theorem pieces_mem {s sep : ByteArray} (h1 : sep.data.toList ≠ []) : ∀ x ∈ piecesB s sep, x.size ≤ s.size := by
  have main : ∀ (n : Nat) (l : List UInt8), l.length = n → ∀ x ∈ Lib.split l sep.data.toList, x.length ≤ n := by
    intro n
    induction n using Nat.strongRecOn with
    | _ n ih =>
      intro l hl x hx
      rcases Lib.index_spec l sep.data.toList with ⟨hm, _⟩ | ⟨i, hi, hle, _, _⟩
      · rw [split_miss hm] at hx
        obtain rfl := List.mem_singleton.1 hx
        omega
      · rw [split_hit h1 hi] at hx
        have hp : 0 < sep.data.toList.length := List.length_pos_iff.2 h1
        have hr := Lib.index_room l sep.data.toList (by omega)
        rcases List.mem_cons.1 hx with rfl | hx
        · rw [List.length_take]; omega
        · have := ih (l.length - (i + sep.data.toList.length)) (by omega) _ (by rw [List.length_drop]) x hx
          omega
  intro x hx
  obtain ⟨u, hu, rfl⟩ := List.mem_map.1 hx
  rw [ofL_size]
  have := main _ _ rfl u hu
  rwa [show s.data.toList.length = s.size from by simp] at this
theorem pieces_length {s sep : ByteArray} (h1 : 1 ≤ sep.size) : (piecesB s sep).length ≤ s.size + 1 := by
  rw [← splitB_pieces]
  have := Lib.splitB_length_le sep 0 (Lib.countB s sep) s
  have := Lib.countB_le sep h1 s.size s (Nat.le_refl _)
  omega
end Go.Proofs.YtpmooegakomnbaaDoor.Pure
