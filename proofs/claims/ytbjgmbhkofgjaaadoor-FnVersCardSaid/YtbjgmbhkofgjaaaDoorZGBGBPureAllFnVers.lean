/- What the functions come to. -/
import Derived.Test.YtbjgmbhkofgjaaaDoorZGBAux
import Derived.Lib.SplitLaws
import Derived.Lib.Join
import Derived.Test.YtbjgmbhkofgjaaaDoorZGBPGBx5
import Derived.Test.YtbjgmbhkofgjaaaDoorZGBPGBx4
import Derived.Test.YtbjgmbhkofgjaaaDoorZGBPGBx0
import Derived.Lib.CutLaws
import Derived.Test.YtbjgmbhkofgjaaaDoorZGBPGBx7
import Derived.Test.YtbjgmbhkofgjaaaDoorZGBPGBx6
import Derived.Test.YtbjgmbhkofgjaaaDoorZGBPGBx3
import Derived.Lib.ItoaNum
import Derived.Test.YtbjgmbhkofgjaaaDoorZGBPGBx8
import Derived.Test.YtbjgmbhkofgjaaaDoorZGBPGBx1
import Derived.Test.YtbjgmbhkofgjaaaDoorZGBPGBx2
import Derived.Test.YtbjgmbhkofgjaaaDoorZGBMine
import Derived.Test.YtbjgmbhkofgjaaaDoorZGBPGBx10
import Derived.Test.YtbjgmbhkofgjaaaDoorZGBPGBx11
set_option linter.unusedVariables false
set_option linter.unusedSimpArgs false
namespace Go.Proofs.YtbjgmbhkofgjaaaDoor.Pure
open Go.RowKit Go.Proofs.YtbjgmbhkofgjaaaDoor.Aux Go.Proofs.YtbjgmbhkofgjaaaDoorW.PrintWords
theorem Ev.yes {α : Type} {c : Prop} [Decidable c] {g f : Nat → Option α} {r : α} (hc : c) (h : Ev g r) : Ev (fun k => if c then g k else f k) r := by
 simpa only [hc, if_true] using h
theorem Ev.no {α : Type} {c : Prop} [Decidable c] {g f : Nat → Option α} {r : α} (hc : ¬ c) (h : Ev f r) : Ev (fun k => if c then g k else f k) r := by
 simpa only [hc, if_false] using h
/-- The bytes u ahead of the first piece. -/
def glue (u : List UInt8) : List (List UInt8) → List (List UInt8)
 | [] => [u]
 | p :: ps => (u ++ p) :: ps
theorem glue_nil : ∀ {l : List (List UInt8)}, l ≠ [] → glue [] l = l
 | [], h => absurd rfl h
 | _ :: _, _ => rfl
theorem glue_glue (u v : List UInt8) : ∀ l : List (List UInt8), l ≠ [] → glue u (glue v l) = glue (u ++ v) l
 | [], h => absurd rfl h
 | p :: ps, _ => by simp [glue]
theorem split_miss {s sep : List UInt8} (h : Lib.index s sep = -1) : Lib.split s sep = [s] := by
 unfold Lib.split
 rw [Lib.count_miss h]
 rfl
theorem split_hit {s sep : List UInt8} {i : Nat} (h1 : sep ≠ []) (h : Lib.index s sep = i) : Lib.split s sep = s.take i :: Lib.split (s.drop (i + sep.length)) sep := by
 unfold Lib.split
 rw [Lib.count_hit h1 h, Nat.add_comm]
 have hm : ¬ (Lib.index s sep == -1) = true := fun e => by have := beq_iff_eq.1 e; omega
 have e : (Lib.index s sep).toNat = i := by omega
 rw [Lib.splitK, if_neg hm, e]
 rfl
theorem split_ne (s sep : List UInt8) : Lib.split s sep ≠ [] := by
 unfold Lib.split
 cases Lib.count s sep with
 | zero => simp [Lib.splitK]
 | succ k =>
  unfold Lib.splitK
  split <;> simp
theorem split_nil {sep : List UInt8} (h1 : sep ≠ []) : Lib.split [] sep = [[]] := by
 refine split_miss ?_
 cases sep with
 | nil => exact absurd rfl h1
 | cons a b => rfl
theorem split_at {s sep : List UInt8} (h1 : sep ≠ []) (h : sep.isPrefixOf s = true) : Lib.split s sep = [] :: Lib.split (s.drop sep.length) sep := by
 have hi : Lib.index s sep = ((0 : Nat) : Int) := by
  cases s with
  | nil =>
   cases sep with
   | nil => exact absurd rfl h1
   | cons a b => simp at h
  | cons b l => unfold Lib.index; rw [if_pos h]; rfl
 rw [split_hit h1 hi]
 simp
theorem split_by {b : UInt8} {l sep : List UInt8} (h1 : sep ≠ []) (h : sep.isPrefixOf (b :: l) = false) : Lib.split (b :: l) sep = glue [b] (Lib.split l sep) := by
 have hx : Lib.index (b :: l) sep = if Lib.index l sep == -1 then -1 else Lib.index l sep + 1 := by rw [Lib.index, h]; simp
 by_cases hm : Lib.index l sep = -1
 ·rw [split_miss hm, split_miss (by rw [hx, if_pos (beq_iff_eq.2 hm)])]
  rfl
 ·have hge := Lib.index_ge l sep
  obtain ⟨j, hj⟩ : ∃ j : Nat, Lib.index l sep = j := ⟨(Lib.index l sep).toNat, by omega⟩
  have hx' : Lib.index (b :: l) sep = ((j + 1 : Nat) : Int) := by rw [hx, if_neg (fun e => hm (beq_iff_eq.1 e)), hj]; omega
  rw [split_hit h1 hj, split_hit h1 hx']
  simp [glue, Nat.add_right_comm]
theorem split_one_at (c : UInt8) (l : List UInt8) : Lib.split (c :: l) [c] = [] :: Lib.split l [c] := by
 rw [split_at (sep := [c]) (by simp) (by unfold List.isPrefixOf; simp)]
 rfl
theorem split_one_by {b c : UInt8} (l : List UInt8) (h : ¬ b = c) : Lib.split (b :: l) [c] = glue [b] (Lib.split l [c]) :=
 split_by (by simp) (by
  unfold List.isPrefixOf
  rw [show (c == b) = false from by simpa using fun e => h e.symm]
  rfl)
/-- A text of bytes. -/
def ofL (l : List UInt8) : ByteArray := ⟨l.toArray⟩
theorem ofL_data (s : ByteArray) : ofL s.data.toList = s := by cases s; simp [ofL]
theorem data_ofL (l : List UInt8) : (ofL l).data.toList = l := by simp [ofL]
theorem ofL_size (l : List UInt8) : (ofL l).size = l.length := by simp [ofL, ByteArray.size]
/-- The pieces of a text. -/
def piecesB (s sep : ByteArray) : List ByteArray := (Lib.split s.data.toList sep.data.toList).map ofL
theorem splitB_pieces (s sep : ByteArray) : Lib.splitB sep 0 (Lib.countB s sep) s = piecesB s sep := by
 have h := Lib.splitB_data sep 0 (Lib.countB s sep) s
 unfold piecesB Lib.split
 rw [← h, List.map_map]
 conv => lhs; rw [← List.map_id (Lib.splitB sep 0 (Lib.countB s sep) s)]
 exact List.map_congr_left (fun x _ => by simp [ofL_data])
theorem extract_ofL (s : ByteArray) (a b : Nat) : s.extract a b = ofL ((s.data.toList.drop a).take (b - a)) := by
 rw [← ofL_data (s.extract a b), Lib.extract_data]
theorem data_drop {s : ByteArray} {i : Nat} (h : i < s.size) : ∃ b : UInt8, s.data.toList.drop i = b :: s.data.toList.drop (i + 1) ∧ bt s (i : Int) = (b.toNat : Int) ∧ s.data.toList[i]? = some b := by
 have hl : i < s.data.toList.length := by simpa using h
 refine ⟨s.data.toList[i], List.drop_eq_getElem_cons hl, ?_, List.getElem?_eq_getElem hl⟩
 rw [bt_bs]
 unfold bs
 rw [List.getD_eq_getElem?_getD, Int.toNat_natCast, List.getElem?_map, List.getElem?_eq_getElem hl]
 rfl
/-- How many pieces, and how long each is. -/
theorem pieces_mem {s sep : ByteArray} (h1 : sep.data.toList ≠ []) : ∀ x ∈ piecesB s sep, x.size ≤ s.size := by
 have main : ∀ (n : Nat) (l : List UInt8), l.length = n → ∀ x ∈ Lib.split l sep.data.toList, x.length ≤ n := by
  intro n
  induction n using Nat.strongRecOn with
  | _ n ih =>
   intro l hl x hx
   rcases Lib.index_spec l sep.data.toList with ⟨hm, _⟩ | ⟨i, hi, hle, _, _⟩
   ·rw [split_miss hm] at hx
    obtain rfl := List.mem_singleton.1 hx
    omega
   ·rw [split_hit h1 hi] at hx
    have hp : 0 < sep.data.toList.length := List.length_pos_iff.2 h1
    have hr := Lib.index_room l sep.data.toList (by omega)
    rcases List.mem_cons.1 hx with rfl | hx
    ·rw [List.length_take]; omega
    ·have := ih (l.length - (i + sep.data.toList.length)) (by omega) _ (by rw [List.length_drop]) x hx
     omega
 intro x hx
 obtain ⟨u, hu, rfl⟩ := List.mem_map.1 hx
 rw [ofL_size]
 have := main _ _ rfl u hu
 rwa [show s.data.toList.length = s.size from by simp] at this
theorem pieces_length {s sep : ByteArray} (h1 : 1 ≤ sep.size) : (piecesB s sep).length ≤ s.size + 1 := by
 rw [← splitB_pieces]
 have := Lib.splitB_length_le sep 0 (Lib.countB s sep) s
 have := Lib.countB_le sep h1 s.size s (Nat.le_refl _)
 omega
end Go.Proofs.YtbjgmbhkofgjaaaDoor.Pure
namespace Go.Proofs.YtbjgmbhkofgjaaaDoor.Pure
open Go.RowKit Go.Proofs.YtbjgmbhkofgjaaaDoor.PGB Go.Proofs.YtbjgmbhkofgjaaaDoorW.PrintWords Go.Proofs.YtbjgmbhkofgjaaaDoorW.PrintLast Go.Proofs.YtbjgmbhkofgjaaaDoor.Aux
def dats (l : List ByteArray) : List (List UInt8) := l.map (·.data.toList)
def joinB (l : List ByteArray) (sep : ByteArray) : ByteArray := ofL (Lib.join (dats l) sep.data.toList)
/-- How many bytes it takes at most. -/
def joinN (l : List ByteArray) (sep : ByteArray) : Nat := sep.size * l.length + Lib.lens (dats l)
theorem joinB_size (l : List ByteArray) (sep : ByteArray) : (joinB l sep).size ≤ joinN l sep := by
 unfold joinB joinN
 rw [ofL_size]
 cases l with
 | nil => simp [dats, Lib.join_nil]
 | cons x r =>
  rw [show dats (x :: r) = x.data.toList :: dats r from rfl, Lib.join_length]
  have h1 : (dats r).length = r.length := by simp [dats]
  have h2 : sep.data.toList.length = sep.size := by simp
  rw [h1, h2, List.length_cons, Nat.mul_succ]
  omega
theorem spec_join_l (x : ByteArray) (r : List ByteArray) (sep : ByteArray) (hb : joinN (x :: r) sep ≤ 140737488355328) (hr : r.length ≤ 140737488355328) (d : Nat) : ∀ j : Nat, j + d = r.length →
  Ev (fun k => spec_Join.l0 k (x :: r) sep (ofL (x.data.toList ++ Lib.joinTail sep.data.toList ((dats r).take j))) ((j + 1 : Nat) : Int)) (joinB (x :: r) sep) := by
 have hdl : (dats r).length = r.length := by simp [dats]
 have hsl : sep.data.toList.length = sep.size := by simp
 have hxl : x.data.toList.length = x.size := by simp
 have hN : joinN (x :: r) sep = sep.size * (r.length + 1) + (x.size + Lib.lens (dats r)) := by
  unfold joinN
  simp [dats, Lib.lens]
 induction d with
 | zero =>
  intro j hj
  have h1 : ¬ ((j + 1 : Nat) : Int) < ((x :: r).length : Int) := by rw [List.length_cons]; omega
  refine Ev.succ ?_
  simp only [spec_Join.l0, h1, if_false]
  refine Ev.cast Ev.some ?_
  rw [List.take_of_length_le (by omega)]
  unfold joinB
  rw [show dats (x :: r) = x.data.toList :: dats r from rfl, Lib.join_cons]
 | succ d ih =>
  intro j hj
  have hlt : j < r.length := by omega
  have h1 : ((j + 1 : Nat) : Int) < ((x :: r).length : Int) := by rw [List.length_cons]; omega
  have h2 : ((j + 1 : Nat) : Int) > 0 := by omega
  have h2' : (0 : Int) ≤ ((j + 1 : Nat) : Int) := by omega
  have h3 : wrap64 (((j + 1 : Nat) : Int) + 1) = ((j + 1 + 1 : Nat) : Int) := by rw [wrap64_id (by omega) (by omega)]; omega
  have hg : rdOf ByteArray.empty (x :: r) ((j + 1 : Nat) : Int) = r[j] := by
   rw [rdOf_cast _ (show j + 1 < (x :: r).length by simpa using hlt)]
   rfl
  have hd : (dats r)[j]? = some r[j].data.toList := by
   unfold dats
   rw [List.getElem?_map, List.getElem?_eq_getElem hlt]
   rfl
  have hts := Lib.joinTail_take_succ sep.data.toList (dats r) j _ hd
  have hle := Lib.joinTail_take_le sep.data.toList (dats r) (j + 1)
  rw [Lib.joinTail_length sep.data.toList (dats r), hts, List.length_append, List.length_append, hsl, hdl] at hle
  have hrl : r[j].data.toList.length = r[j].size := by simp
  have e1 : ofL (x.data.toList ++ Lib.joinTail sep.data.toList ((dats r).take j)) ++ sep = ofL (x.data.toList ++ Lib.joinTail sep.data.toList ((dats r).take j) ++ sep.data.toList) := by
   rw [← ofL_data (ofL _ ++ sep)]; simp [ofL]
  have e2 : ∀ u : List UInt8, ofL u ++ r[j] = ofL (u ++ r[j].data.toList) := fun u => by
   rw [← ofL_data (ofL _ ++ r[j])]; simp [ofL]
  have hmul : sep.size * r.length ≤ sep.size * (r.length + 1) := Nat.mul_le_mul_left _ (by omega)
  refine Ev.succ ?_
  simp only [spec_Join.l0, h1, h2, h2', if_true, hg, h3, e1, e2, ofL_size, List.length_append, hxl, hsl]
  have b1 : x.size + (Lib.joinTail sep.data.toList (List.take j (dats r))).length + sep.size ≤ 9223372036854775807 := by omega
  have b2 : x.size + (Lib.joinTail sep.data.toList (List.take j (dats r))).length + sep.size + r[j].size ≤ 9223372036854775807 := by omega
  simp only [b1, b2, if_true]
  have h := ih (j + 1) (by omega)
  rw [hts] at h
  simpa only [List.append_assoc] using h
theorem spec_join (l : List ByteArray) (sep : ByteArray) (hb : joinN l sep ≤ 140737488355328) (hr : l.length ≤ 140737488355328) : Ev (fun k => spec_Join.f k l sep) (joinB l sep) := by
 unfold spec_Join.f
 cases l with
 | nil =>
  refine Ev.succ ?_
  simp only [spec_Join.l0, List.length_nil, show ¬ ((0 : Int) < ((0 : Nat) : Int)) by omega, if_false]
  exact Ev.some
 | cons x r =>
  have hxs : x.size ≤ 140737488355328 := by
   unfold joinN at hb
   simp [dats, Lib.lens] at hb
   omega
  have hg : rdOf ByteArray.empty (x :: r) 0 = x := rfl
  have he : (⟨#[]⟩ : ByteArray) ++ x = x := by
   rw [← ofL_data ((⟨#[]⟩ : ByteArray) ++ x)]
   conv => rhs; rw [← ofL_data x]
   simp [ofL]
  have h := spec_join_l x r sep hb (by simp at hr; omega) r.length 0 (by omega)
  refine Ev.succ ?_
  simp only [spec_Join.l0, show ((0 : Int) < ((x :: r).length : Int)) by rw [List.length_cons]; omega, show ¬ ((0 : Int) > 0) by omega, if_true, if_false, Int.le_refl, hg, he]
  rw [show wrap64 (0 + 1) = ((0 + 1 : Nat) : Int) from by rw [wrap64_id (by omega) (by omega)]; rfl]
  have hz : (⟨#[]⟩ : ByteArray).size + x.size ≤ 9223372036854775807 := by show 0 + x.size ≤ _; omega
  simp only [hz, if_true]
  simpa [Lib.joinTail, ofL_data] using h
theorem strings_join (l : List ByteArray) (sep : ByteArray) (hb : joinN l sep ≤ 140737488355328) (hr : l.length ≤ 140737488355328) : strings_Join.f l sep = some (joinB l sep) := by
 have h := joinB_size l sep
 unfold joinB at h
 rw [ofL_size] at h
 unfold strings_Join.f
 rw [if_pos ⟨Nat.le_trans h hb, hr⟩]
 rfl
end Go.Proofs.YtbjgmbhkofgjaaaDoor.Pure
namespace Go.Proofs.YtbjgmbhkofgjaaaDoor.Pure
open Go.RowKit Go.Proofs.YtbjgmbhkofgjaaaDoor.PGB Go.Proofs.YtbjgmbhkofgjaaaDoorW.PrintWords Go.Proofs.YtbjgmbhkofgjaaaDoorW.PrintLast Go.Proofs.YtbjgmbhkofgjaaaDoor.Aux
theorem join_two (x y : List UInt8) (r : List (List UInt8)) (sep : List UInt8) : Lib.join (x :: y :: r) sep = x ++ sep ++ Lib.join (y :: r) sep := by
 rw [Lib.join_cons, Lib.join_cons]
 simp [Lib.joinTail, List.append_assoc]
theorem join_glue (u : List UInt8) (sep : List UInt8) : ∀ l : List (List UInt8), Lib.join (glue u l) sep = u ++ Lib.join l sep
 | [] => by simp [glue, Lib.join_one, Lib.join_nil]
 | p :: ps => by rw [glue, Lib.join_cons, Lib.join_cons, List.append_assoc]
theorem join_split (c : UInt8) : ∀ l : List UInt8, Lib.join (Lib.split l [c]) [c] = l
 | [] => by rw [split_nil (by simp), Lib.join_one]
 | b :: l => by
  have ih := join_split c l
  by_cases h : b = c
  ·subst h
   rw [split_one_at]
   cases hs : Lib.split l [b] with
   | nil => exact absurd hs (split_ne _ _)
   | cons y r =>
    rw [hs] at ih
    rw [join_two, ih]
    rfl
  ·rw [split_one_by _ h, join_glue, ih]
   rfl
theorem dats_pieces (s sep : ByteArray) : dats (piecesB s sep) = Lib.split s.data.toList sep.data.toList := by
 unfold dats piecesB
 rw [List.map_map]
 conv => rhs; rw [← List.map_id (Lib.split s.data.toList sep.data.toList)]
 exact List.map_congr_left (fun x _ => data_ofL x)
theorem joinB_pieces (s : ByteArray) (c : UInt8) : joinB (piecesB s ⟨#[c]⟩) ⟨#[c]⟩ = s := by
 unfold joinB
 rw [dats_pieces, show (⟨#[c]⟩ : ByteArray).data.toList = [c] from rfl, join_split, ofL_data]
theorem joinN_size {l : List ByteArray} {sep : ByteArray} (h : l ≠ []) : joinN l sep = sep.size + (joinB l sep).size := by
 cases l with
 | nil => exact absurd rfl h
 | cons x r =>
  unfold joinN joinB
  rw [ofL_size, show dats (x :: r) = x.data.toList :: dats r from rfl, Lib.join_cons, List.length_append, Lib.joinTail_length]
  have h1 : (dats r).length = r.length := by simp [dats]
  have h2 : sep.data.toList.length = sep.size := by simp
  simp only [Lib.lens, List.map_cons, List.sum_cons, h1, h2, List.length_cons, Nat.mul_succ]
  omega
theorem pieces_ne (s sep : ByteArray) : piecesB s sep ≠ [] := by
 unfold piecesB
 simp [split_ne]
theorem joinN_pieces (s : ByteArray) (c : UInt8) : joinN (piecesB s ⟨#[c]⟩) ⟨#[c]⟩ = s.size + 1 := by
 rw [joinN_size (pieces_ne _ _), joinB_pieces, show (⟨#[c]⟩ : ByteArray).size = 1 from rfl]
 omega
/-- The first place of a byte; the text's length where there is none. -/
def at1 (c : UInt8) (l : List UInt8) : Nat := l.findIdx (· == c)
theorem at1_nil (c : UInt8) : at1 c [] = 0 := rfl
theorem at1_hit (c : UInt8) (l : List UInt8) : at1 c (c :: l) = 0 := by simp [at1, List.findIdx_cons]
theorem at1_miss {b c : UInt8} (h : ¬ b = c) (l : List UInt8) : at1 c (b :: l) = at1 c l + 1 := by
 unfold at1
 rw [List.findIdx_cons, show (b == c) = false from by simpa using h]
 rfl
theorem at1_le (c : UInt8) (l : List UInt8) : at1 c l ≤ l.length := List.findIdx_le_length
theorem index_one (c : UInt8) : ∀ l : List UInt8, Lib.index l [c] = if at1 c l < l.length then (at1 c l : Int) else -1
 | [] => rfl
 | b :: l => by
  have ih := index_one c l
  by_cases h : b = c
  ·subst h
   rw [Lib.index, at1_hit]
   simp [List.isPrefixOf]
  ·have hp : [c].isPrefixOf (b :: l) = false := by
    unfold List.isPrefixOf
    rw [show (c == b) = false from by simpa using fun e => h e.symm]
    rfl
   rw [Lib.index, hp, at1_miss h, ih, List.length_cons]
   simp only [Bool.false_eq_true, if_false]
   by_cases hl : at1 c l < l.length
   ·have hq : ¬ ((at1 c l : Int) == -1) = true := fun e => by have := beq_iff_eq.1 e; omega
    simp only [hl, if_true, if_neg hq, show at1 c l + 1 < l.length + 1 by omega]
    omega
   ·simp [hl]
def headB (c : UInt8) (s : ByteArray) : ByteArray := ofL (s.data.toList.take (at1 c s.data.toList))
def tailB (c : UInt8) (s : ByteArray) : ByteArray := ofL (s.data.toList.drop (at1 c s.data.toList + 1))
def hasB (c : UInt8) (s : ByteArray) : Bool := decide (at1 c s.data.toList < s.data.toList.length)
theorem headB_size (c : UInt8) (s : ByteArray) : (headB c s).size ≤ s.size := by
 unfold headB
 rw [ofL_size, List.length_take]
 have : s.data.toList.length = s.size := by simp
 omega
theorem tailB_size (c : UInt8) (s : ByteArray) : (tailB c s).size ≤ s.size := by
 unfold tailB
 rw [ofL_size, List.length_drop]
 have : s.data.toList.length = s.size := by simp
 omega
theorem at1_get (c : UInt8) : ∀ l : List UInt8, at1 c l < l.length → l = l.take (at1 c l) ++ c :: l.drop (at1 c l + 1)
 | [], h => absurd h (by simp)
 | b :: l, h => by
  by_cases e : b = c
  ·subst e
   rw [at1_hit]
   rfl
  ·rw [at1_miss e] at h ⊢
   have := at1_get c l (by simpa using h)
   simp only [List.take_succ_cons, List.drop_succ_cons, List.cons_append]
   exact congrArg (b :: ·) this
theorem head_has {c : UInt8} {s : ByteArray} (h : hasB c s = true) : headB c s ++ (⟨#[c]⟩ ++ tailB c s) = s := by
 have h1 := at1_get c s.data.toList (by simpa [hasB] using h)
 rw [← ofL_data (headB c s ++ (⟨#[c]⟩ ++ tailB c s))]
 conv => rhs; rw [← ofL_data s, h1]
 unfold headB tailB
 simp [ofL]
theorem head_not {c : UInt8} {s : ByteArray} (h : hasB c s = false) : headB c s = s := by
 have h1 : ¬ at1 c s.data.toList < s.data.toList.length := by simpa [hasB] using h
 unfold headB
 rw [List.take_of_length_le (by omega), ofL_data]
theorem cut_one (c : UInt8) (s : ByteArray) : Lib.cut s.data.toList [c] = if hasB c s = true then ((headB c s).data.toList, (tailB c s).data.toList, true) else (s.data.toList, [], false) := by
 unfold Lib.cut headB tailB hasB
 rw [index_one, data_ofL, data_ofL]
 by_cases h : at1 c s.data.toList < s.data.toList.length
 ·simp only [h, if_true, decide_true, show (0 : Int) ≤ (at1 c s.data.toList : Int) by omega, Int.toNat_natCast, List.length_cons, List.length_nil]
 ·simp only [h, if_false, decide_false, Bool.false_eq_true, show ¬ (0 : Int) ≤ -1 by omega]
end Go.Proofs.YtbjgmbhkofgjaaaDoor.Pure
namespace Go.Proofs.YtbjgmbhkofgjaaaDoor.Pure
open Go.RowKit Go.Proofs.YtbjgmbhkofgjaaaDoor.PGB Go.Proofs.YtbjgmbhkofgjaaaDoorW.PrintWords Go.Proofs.YtbjgmbhkofgjaaaDoorW.PrintLast Go.Proofs.YtbjgmbhkofgjaaaDoor.Aux
theorem spec_split_l (s : ByteArray) (c : UInt8) (hs : s.size ≤ 16777216) (d : Nat) : ∀ (i fr : Nat) (out : List ByteArray), i + d = s.size → fr ≤ i → out.length ≤ i →
  Ev (fun k => spec_Split.l0 k s (c.toNat : Int) out (fr : Int) (i : Int)) (out ++ (glue ((s.data.toList.drop fr).take (i - fr)) (Lib.split (s.data.toList.drop i) [c])).map ofL) := by
 induction d with
 | zero =>
  intro i fr out hi hf ho
  obtain rfl : i = s.size := by omega
  have h3 := wrap64_id (i := (s.size : Int) + 1) (by omega) (by omega)
  have hd : s.data.toList.drop s.size = [] := List.drop_eq_nil_of_le (by simp)
  refine Ev.succ ?_
  simp only [spec_Split.l0, Int.le_refl, if_true, show (0 : Int) ≤ (fr : Int) by omega, show (fr : Int) ≤ (s.size : Int) by omega, show out.length < 8796093022208 by omega, h3]
  refine Ev.succ ?_
  simp only [spec_Split.l0, show ¬ ((s.size : Int) + 1 ≤ (s.size : Int)) by omega, if_false]
  refine Ev.cast Ev.some ?_
  rw [hd, split_nil (by simp)]
  simp only [glue, List.append_nil, List.map_cons, List.map_nil, Int.toNat_natCast, extract_ofL]
 | succ d ih =>
  intro i fr out hi hf ho
  have hlt : i < s.size := by omega
  have h3 := next_i hlt (by omega)
  obtain ⟨b, hb, hbt, hg⟩ := data_drop hlt
  refine Ev.succ ?_
  simp only [spec_Split.l0, show (i : Int) ≤ (s.size : Int) by omega, show ¬ (i : Int) = (s.size : Int) by omega, show (0 : Int) ≤ (i : Int) by omega, show (i : Int) < (s.size : Int) by omega, if_true, if_false, h3, hbt]
  by_cases h : b = c
  ·subst h
   simp only [show (0 : Int) ≤ (fr : Int) by omega, show (fr : Int) ≤ (i : Int) by omega, show out.length < 8796093022208 by omega, if_true]
   refine Ev.cast (ih (i + 1) (i + 1) _ (by omega) (by omega) (by simp; omega)) ?_
   rw [hb, split_one_at, Nat.sub_self, List.take_zero, glue_nil (split_ne _ _)]
   simp only [glue, List.append_nil, List.map_cons, List.append_assoc, List.singleton_append, Int.toNat_natCast, extract_ofL]
  ·have hne : ¬ ((b.toNat : Int) = (c.toNat : Int)) := fun e => h (UInt8.toNat_inj.1 (by omega))
   simp only [hne, if_false]
   refine Ev.cast (ih (i + 1) fr out (by omega) (by omega) (by omega)) ?_
   rw [hb, split_one_by _ h, glue_glue _ _ _ (split_ne _ _)]
   congr 3
   have hx : (s.data.toList.drop fr)[i - fr]? = some b := by rw [List.getElem?_drop, show fr + (i - fr) = i by omega, hg]
   rw [show i + 1 - fr = (i - fr) + 1 by omega, List.take_add_one, hx]
   rfl
theorem spec_split (s : ByteArray) (c : UInt8) (hs : s.size ≤ 16777216) : Ev (fun k => spec_Split.f k s (c.toNat : Int)) (piecesB s ⟨#[c]⟩) := by
 unfold spec_Split.f
 refine Ev.cast (spec_split_l s c hs s.size 0 0 [] (by omega) (by omega) (by simp)) ?_
 rw [List.nil_append, List.drop_zero, Nat.sub_self, List.take_zero, glue_nil (split_ne _ _)]
 rfl
theorem strings_split (s : ByteArray) (c : UInt8) (hs : s.size ≤ 16777216) : strings_Split.f s ⟨#[c]⟩ = some (piecesB s ⟨#[c]⟩) := by
 unfold strings_Split.f
 rw [if_pos ⟨by omega, by show 1 ≤ 1; omega⟩, splitB_pieces]
end Go.Proofs.YtbjgmbhkofgjaaaDoor.Pure
namespace Go.Proofs.YtbjgmbhkofgjaaaDoor.Pure
open Go.RowKit Go.Proofs.YtbjgmbhkofgjaaaDoor.PGB Go.Proofs.YtbjgmbhkofgjaaaDoorW.PrintWords Go.Proofs.YtbjgmbhkofgjaaaDoorW.PrintLast Go.Proofs.YtbjgmbhkofgjaaaDoor.Aux
def inB (x a b : Int) : Bool := decide (a ≤ x) && decide (x ≤ b)
def smallB (x : Int) : Bool := inB x 97 122
def digitB (x : Int) : Bool := inB x 48 57
def upperB (x : Int) : Bool := inB x 65 90
theorem in_f (a b c : Int) : spec_l1In.f a b c = some (inB a b c) := by
 unfold spec_l1In.f inB
 by_cases h : b ≤ a <;> simp [h]
theorem inRange_f (a b c : Int) : impl_inRange.f a b c = some (inB a b c) := by
 unfold impl_inRange.f inB
 by_cases h : b ≤ a <;> simp [h]
theorem small_spec {x : Int} (h : 0 ≤ x ∧ x ≤ 255) : spec_l1Small.f x = some (smallB x) := by
 unfold spec_l1Small.f
 rw [wrap64_id (by omega) (by omega), in_f]
 rfl
theorem digit_spec {x : Int} (h : 0 ≤ x ∧ x ≤ 255) : spec_l1Digit.f x = some (digitB x) := by
 unfold spec_l1Digit.f
 rw [wrap64_id (by omega) (by omega), in_f]
 rfl
theorem small_impl (x : Int) : impl_isSmall.f x = some (smallB x) := by
 unfold impl_isSmall.f smallB inB
 by_cases h : 97 ≤ x <;> simp [h]
theorem digit_impl (x : Int) : impl_isFigure.f x = some (digitB x) := by
 unfold impl_isFigure.f digitB inB
 by_cases h : 48 ≤ x <;> simp [h]
end Go.Proofs.YtbjgmbhkofgjaaaDoor.Pure
namespace Go.Proofs.YtbjgmbhkofgjaaaDoor.Pure
open Go.RowKit Go.Proofs.YtbjgmbhkofgjaaaDoor.PGB Go.Proofs.YtbjgmbhkofgjaaaDoorW.PrintWords Go.Proofs.YtbjgmbhkofgjaaaDoorW.PrintLast Go.Proofs.YtbjgmbhkofgjaaaDoor.Aux
/-- The text of a number's digits; of one below 0: "0". -/
def numB (x : Int) : ByteArray := ofL (Lib.decDigits x.toNat)
theorem dig_one (x : Nat) : strOfNums [wrap64 (48 + Int.tmod (x : Int) 10) % 256] = ofL [UInt8.ofNat (48 + x % 10)] := by
 have h : wrap64 (48 + Int.tmod (x : Int) 10) % 256 = ((48 + x % 10 : Nat) : Int) := by
  rw [Int.tmod_eq_emod_of_nonneg (by omega), wrap64_id (by omega) (by omega)]
  omega
 rw [h]
 rfl
theorem ofL_append (a b : List UInt8) : ofL a ++ ofL b = ofL (a ++ b) := by
 rw [← ofL_data (ofL a ++ ofL b)]
 simp [ofL]
theorem spec_num_l (m : Nat) : ∀ (x : Nat) (rest : List UInt8), x < 10 ^ m → x ≤ 9223372036854775807 → m + rest.length ≤ 100 →
  Ev (fun k => spec_NumText.l0 k (x : Int) (ofL (UInt8.ofNat (48 + x % 10) :: rest))) (ofL (Lib.decDigits x ++ rest)) := by
 induction m with
 | zero =>
  intro x rest hx _ hr
  obtain rfl : x = 0 := by simp at hx; exact hx
  refine Ev.succ ?_
  simp only [spec_NumText.l0, show ¬ ((0 : Nat) : Int) > 9 by omega, if_false]
  refine Ev.cast Ev.some ?_
  rw [Lib.decDigits, dif_pos (by omega)]
  rfl
 | succ m ih =>
  intro x rest hx hx2 hr
  by_cases h9 : x < 10
  ·refine Ev.succ ?_
   simp only [spec_NumText.l0, show ¬ (x : Int) > 9 by omega, if_false]
   refine Ev.cast Ev.some ?_
   rw [Lib.decDigits, dif_pos h9, Nat.mod_eq_of_lt h9]
   rfl
  ·have hd : wrap64 (Int.tdiv (x : Int) 10) = ((x / 10 : Nat) : Int) := by
    rw [Int.tdiv_eq_ediv_of_nonneg (by omega), wrap64_id (by omega) (by omega)]
    omega
   have hw : ∀ (y : Nat), (strOfNums [wrap64 (48 + Int.tmod (y : Int) 10) % 256]) = ofL [UInt8.ofNat (48 + y % 10)] := dig_one
   have := ih (x / 10) (UInt8.ofNat (48 + x % 10) :: rest) (by rw [Nat.pow_succ] at hx; omega) (by omega) (by simp only [List.length_cons]; omega)
   refine Ev.succ ?_
   simp only [spec_NumText.l0, show (x : Int) > 9 by omega, if_true, Option.bind_some, hd, hw, ofL_append, ofL_size, List.length_cons, List.length_nil, show 0 + 1 + (rest.length + 1) ≤ 9223372036854775807 by omega]
   refine Ev.cast this ?_
   rw [show Lib.decDigits x = Lib.decDigits (x / 10) ++ [UInt8.ofNat (48 + x % 10)] from by rw [Lib.decDigits, dif_neg h9]]
   simp
theorem spec_num (x : Int) (h : x ≤ 9223372036854775807) : Ev (fun k => spec_NumText.f k x) (numB x) := by
 unfold spec_NumText.f numB
 by_cases h0 : x < 0
 ·simp only [h0, if_true]
  refine Ev.succ ?_
  simp only [spec_NumText.j0]
  have := spec_num_l 1 0 [] (by omega) (by omega) (by simp)
  rw [show x.toNat = 0 by omega]
  have hd := dig_one 0
  rw [show ((0 : Nat) : Int) = 0 from rfl] at hd this
  rw [hd]
  simpa using this
 ·simp only [h0, if_false]
  obtain ⟨n, rfl⟩ : ∃ n : Nat, x = n := ⟨x.toNat, by omega⟩
  refine Ev.succ ?_
  simp only [spec_NumText.j0]
  have := spec_num_l 19 n [] (by omega) (by omega) (by simp)
  rw [dig_one n]
  simpa using this
theorem impl_num (x : Int) (h : x ≤ 9223372036854775807) : impl_NumText.f x = some (numB x) := by
 unfold impl_NumText.f strconv_Itoa.f
 have hm : mx x 0 = (x.toNat : Int) := by unfold mx; split <;> omega
 rw [hm, if_pos ⟨by omega, by omega⟩]
 simp only [Option.bind_some, numB, Lib.itoa, show ¬ ((x.toNat : Nat) : Int) < 0 by omega, if_false, Int.toNat_natCast]
 rfl
end Go.Proofs.YtbjgmbhkofgjaaaDoor.Pure
namespace Go.Proofs.YtbjgmbhkofgjaaaDoor.Pure
open Go.RowKit Go.Proofs.YtbjgmbhkofgjaaaDoor.PGB Go.Proofs.YtbjgmbhkofgjaaaDoorW.PrintWords Go.Proofs.YtbjgmbhkofgjaaaDoorW.PrintLast Go.Proofs.YtbjgmbhkofgjaaaDoor.Aux
/-- The number that digits tell. -/
def valL (l : List UInt8) : Nat := l.foldl (fun a b => a * 10 + (b.toNat - 48)) 0
theorem valL_snoc (l : List UInt8) (b : UInt8) : valL (l ++ [b]) = valL l * 10 + (b.toNat - 48) := by
 unfold valL
 rw [List.foldl_append]
 rfl
def digL (b : UInt8) : Bool := digitB (b.toNat : Int)
theorem digL_iff (b : UInt8) : digL b = true ↔ 48 ≤ b.toNat ∧ b.toNat ≤ 57 := by
 unfold digL digitB inB
 simp
 omega
theorem valL_lt : ∀ (n : Nat) (l : List UInt8), l.length = n → (∀ b ∈ l, digL b = true) → valL l < 10 ^ n
 | 0, l, hl, _ => by
  obtain rfl := List.length_eq_zero_iff.1 hl
  decide
 | n + 1, l, hl, hd => by
  obtain ⟨u, b, rfl⟩ : ∃ u b, l = u ++ [b] := ⟨l.dropLast, l.getLast (by intro e; simp [e] at hl), (List.dropLast_concat_getLast _).symm⟩
  have hb := (digL_iff b).1 (hd b (by simp))
  have := valL_lt n u (by simpa using hl) (fun c hc => hd c (by simp [hc]))
  rw [valL_snoc, Nat.pow_succ]
  omega
theorem decDigits_head : ∀ (n u : Nat), u ≤ n → 1 ≤ u → ∃ h t, Lib.decDigits u = h :: t ∧ h ≠ 48
 | 0, u, h, h1 => by omega
 | n + 1, u, h, h1 => by
  by_cases h9 : u < 10
  ·refine ⟨UInt8.ofNat (48 + u), [], by rw [Lib.decDigits, dif_pos h9], fun e => ?_⟩
   have := congrArg UInt8.toNat e
   simp at this
   omega
  ·obtain ⟨a, t, e, ha⟩ := decDigits_head n (u / 10) (by omega) (by omega)
   exact ⟨a, t ++ [UInt8.ofNat (48 + u % 10)], by rw [Lib.decDigits, dif_neg h9, e]; rfl, ha⟩
/-- No zero ahead of others. -/
def noLead : List UInt8 → Bool
 | [] => false
 | [_] => true
 | b :: _ :: _ => b != 48
theorem decDigits_val : ∀ (n : Nat) (l : List UInt8), l.length = n → (∀ b ∈ l, digL b = true) → noLead l = true → Lib.decDigits (valL l) = l
 | 0, l, hl, _, hn => by
  obtain rfl := List.length_eq_zero_iff.1 hl
  cases hn
 | n + 1, l, hl, hd, hn => by
  obtain ⟨u, b, rfl⟩ : ∃ u b, l = u ++ [b] := ⟨l.dropLast, l.getLast (by intro e; simp [e] at hl), (List.dropLast_concat_getLast _).symm⟩
  have hb := (digL_iff b).1 (hd b (by simp))
  rw [valL_snoc]
  cases u with
  | nil =>
   rw [show valL [] = 0 from rfl, Lib.decDigits, dif_pos (by omega)]
   have : UInt8.ofNat (48 + (0 * 10 + (b.toNat - 48))) = b := by
    apply UInt8.toNat_inj.1
    simp
    omega
   rw [this]
   rfl
  | cons a r =>
   have ha : a ≠ 48 := by
    cases r with
    | nil => simpa [noLead] using hn
    | cons c r => simpa [noLead] using hn
   have had := (digL_iff a).1 (hd a (by simp))
   have hnl : noLead (a :: r) = true := by
    cases r with
    | nil => rfl
    | cons c r => simpa [noLead] using ha
   have ih := decDigits_val n (a :: r) (by simpa using hl) (fun c hc => hd c (by simp at hc ⊢; rcases hc with h | h <;> simp [h])) hnl
   have hpos : 1 ≤ valL (a :: r) := by
    apply Decidable.byContradiction
    intro hz
    have h0 : valL (a :: r) = 0 := by omega
    rw [h0, Lib.decDigits, dif_pos (by omega)] at ih
    have : (48 : UInt8) = a := (List.cons.inj ih).1
    exact ha this.symm
   rw [Lib.decDigits, dif_neg (by omega)]
   rw [show (valL (a :: r) * 10 + (b.toNat - 48)) / 10 = valL (a :: r) by omega, show (valL (a :: r) * 10 + (b.toNat - 48)) % 10 = b.toNat - 48 by omega, ih]
   have : UInt8.ofNat (48 + (b.toNat - 48)) = b := by
    apply UInt8.toNat_inj.1
    simp
    omega
   rw [this]
theorem noLead_of_dec {l : List UInt8} (h : Lib.decDigits (valL l) = l) : noLead l = true := by
 match l, h with
 | [], h =>
  rw [show valL [] = 0 from rfl, Lib.decDigits, dif_pos (by omega)] at h
  cases h
 | [_], _ => rfl
 | a :: b :: r, h =>
  by_cases h0 : valL (a :: b :: r) = 0
  ·rw [h0, Lib.decDigits, dif_pos (by omega)] at h
   cases h
  ·obtain ⟨c, t, e, hc⟩ := decDigits_head _ _ (Nat.le_refl _) (by omega : 1 ≤ valL (a :: b :: r))
   rw [h] at e
   obtain rfl : a = c := (List.cons.inj e).1
   simpa [noLead] using hc
def valB (s : ByteArray) : Int := (valL s.data.toList : Int)
def parseOk (s : ByteArray) : Bool := inB s.size 1 7 && (s.data.toList.all digL && noLead s.data.toList)
def parseM (s : ByteArray) (most : Int) : Int × Bool := if parseOk s = true ∧ valB s ≤ most then (valB s, true) else (0, false)
theorem take_next {s : ByteArray} {i : Nat} {b : UInt8} (hg : s.data.toList[i]? = some b) : s.data.toList.take (i + 1) = s.data.toList.take i ++ [b] := by
 rw [List.take_add_one, hg]
 rfl
theorem all_not {s : ByteArray} {i : Nat} {b : UInt8} (hg : s.data.toList[i]? = some b) (hb : digL b = false) : s.data.toList.all digL = false := by
 rw [List.all_eq_false]
 exact ⟨b, List.mem_of_getElem? hg, by simp [hb]⟩
theorem step_val {s : ByteArray} {i : Nat} {b : UInt8} (hg : s.data.toList[i]? = some b) (hb : digL b = true) (hd : ∀ c ∈ s.data.toList.take i, digL c = true) (hi : i < 8) (hlt : i < s.size) :
  wrap64 (wrap64 ((valL (s.data.toList.take i) : Int) * 10) + (((b.toNat : Int) - 48) % 256)) = (valL (s.data.toList.take (i + 1)) : Int) ∧ ∀ c ∈ s.data.toList.take (i + 1), digL c = true := by
 have hb' := (digL_iff b).1 hb
 have hl : (s.data.toList.take i).length = i := by rw [List.length_take]; simp; omega
 have hv := valL_lt i _ hl hd
 have hp : 10 ^ i ≤ 10 ^ 7 := Nat.pow_le_pow_right (by omega) (by omega)
 have hp7 : 10 ^ 7 = 10000000 := by decide
 rw [take_next hg, valL_snoc]
 refine ⟨?_, fun c hc => ?_⟩
 ·rw [wrap64_id (i := (valL (s.data.toList.take i) : Int) * 10) (by omega) (by omega), wrap64_id (by omega) (by omega)]
  omega
 ·rcases List.mem_append.1 hc with h | h
  ·exact hd c h
  ·rw [List.mem_singleton.1 h]; exact hb
theorem noLead_bytes {s : ByteArray} (h1 : 1 ≤ s.size) : noLead s.data.toList = (decide (¬ (s.size : Int) > 1) || decide (¬ bt s 0 = 48)) := by
 obtain ⟨b, hb, hbt, _⟩ := data_drop (s := s) (i := 0) (by omega)
 rw [List.drop_zero] at hb
 have hl : s.data.toList.length = s.size := by simp
 rw [show ((0 : Nat) : Int) = 0 from rfl] at hbt
 rw [hbt]
 cases hr : s.data.toList.drop 1 with
 | nil =>
  rw [hb, hr] at hl ⊢
  simp only [List.length_cons, List.length_nil] at hl
  simp [noLead, show ¬ (s.size : Int) > 1 by omega]
 | cons c r =>
  rw [hb, hr] at hl ⊢
  simp only [List.length_cons] at hl
  simp only [noLead, show (s.size : Int) > 1 by omega, not_true, decide_false, Bool.false_or]
  rw [Bool.eq_iff_iff]
  simp only [bne_iff_ne, ne_eq, decide_eq_true_eq]
  refine ⟨fun h e => h (UInt8.toNat_inj.1 (by simp; omega)), fun h e => h (by rw [e]; rfl)⟩
theorem spec_parse_big (s : ByteArray) (most : Int) (hs : 7 < s.size) (hs2 : s.size ≤ 9223372036854775807) (d : Nat) : ∀ (i : Nat) (n : Int), i + d = 8 → Ev (fun k => spec_ParseNum.l0 k s most n (i : Int)) (0, false) := by
 have hin : inB (s.size : Int) 1 7 = false := by unfold inB; simp; omega
 induction d with
 | zero =>
  intro i n hi
  obtain rfl : i = 8 := by omega
  refine Ev.succ ?_
  by_cases h : ((8 : Nat) : Int) < (s.size : Int)
  ·simp only [spec_ParseNum.l0, h, if_true, show decide (((8 : Nat) : Int) < 8) = false from rfl]
   refine Ev.succ ?_
   simp only [spec_ParseNum.j1, Bool.false_eq_true, if_false, in_f, hin, Option.bind_some]
   exact Ev.some
  ·simp only [spec_ParseNum.l0, h, if_false]
   refine Ev.succ ?_
   simp only [spec_ParseNum.j1, Bool.false_eq_true, if_false, in_f, hin, Option.bind_some]
   exact Ev.some
 | succ d ih =>
  intro i n hi
  have h1 : (i : Int) < (s.size : Int) := by omega
  have h2 : (0 : Int) ≤ (i : Int) := by omega
  have h3 := next_i (show i < s.size by omega) hs2
  refine Ev.succ ?_
  simp only [spec_ParseNum.l0, h1, if_true, show decide ((i : Int) < 8) = true by simp; omega]
  refine Ev.succ ?_
  simp only [spec_ParseNum.j1, if_true, h1, h2, h3, digit_spec (bt_range s i), Option.bind_some]
  cases hp : digitB (bt s (i : Int)) with
  | true => simpa using ih (i + 1) _ (by omega)
  | false => simpa using Ev.some
theorem spec_parse_l (s : ByteArray) (most : Int) (hs : s.size ≤ 7) (d : Nat) : ∀ (i : Nat), i + d = s.size → (∀ c ∈ s.data.toList.take i, digL c = true) → Ev (fun k => spec_ParseNum.l0 k s most (valL (s.data.toList.take i) : Int) (i : Int)) (parseM s most) := by
 induction d with
 | zero =>
  intro i hi hd
  obtain rfl : i = s.size := by omega
  have ht : s.data.toList.take s.size = s.data.toList := List.take_of_length_le (by simp)
  rw [ht] at hd ⊢
  have hall : s.data.toList.all digL = true := List.all_eq_true.2 hd
  refine Ev.succ ?_
  simp only [spec_ParseNum.l0, show ¬ (s.size : Int) < (s.size : Int) by omega, if_false]
  refine Ev.succ ?_
  simp only [spec_ParseNum.j1, Bool.false_eq_true, if_false, in_f, Option.bind_some]
  unfold parseM parseOk
  rw [hall, Bool.true_and]
  cases hb : inB (s.size : Int) 1 7 with
  | false => simpa using Ev.some
  | true =>
   have h1 : 1 ≤ s.size := by unfold inB at hb; simp at hb; omega
   rw [noLead_bytes h1]
   simp only [if_true, Bool.true_and]
   by_cases hg : (s.size : Int) > 1
   ·simp only [hg, if_true, show (0 : Int) < (s.size : Int) by omega, not_true, decide_false, Bool.false_or]
    by_cases hz : bt s 0 = 48
    ·simp only [hz, if_true, not_true, decide_false]
     simpa using Ev.some
    ·simp only [hz, if_false, not_false_eq_true, decide_true, true_and]
     by_cases hm : (valL s.data.toList : Int) > most
     ·simp only [hm, if_true]
      rw [if_neg (by unfold valB; omega)]
      exact Ev.some
     ·simp only [hm, if_false]
      rw [if_pos (by unfold valB; omega)]
      exact Ev.some
   ·simp only [hg, if_false, not_false_eq_true, decide_true, Bool.true_or, true_and]
    by_cases hm : (valL s.data.toList : Int) > most
    ·simp only [hm, if_true]
     rw [if_neg (by unfold valB; omega)]
     exact Ev.some
    ·simp only [hm, if_false]
     rw [if_pos (by unfold valB; omega)]
     exact Ev.some
 | succ d ih =>
  intro i hi hd
  have hlt : i < s.size := by omega
  have h1 : (i : Int) < (s.size : Int) := by omega
  have h2 : (0 : Int) ≤ (i : Int) := by omega
  have h3 := next_i hlt (by omega)
  obtain ⟨b, _, hbt, hg⟩ := data_drop hlt
  refine Ev.succ ?_
  simp only [spec_ParseNum.l0, h1, if_true, show decide ((i : Int) < 8) = true by simp; omega]
  refine Ev.succ ?_
  simp only [spec_ParseNum.j1, if_true, h1, h2, h3, digit_spec (bt_range s i), Option.bind_some]
  rw [hbt]
  show Ev (fun k => if digL b = true then _ else _) _
  cases hp : digL b with
  | true =>
   have hst := step_val hg hp hd (by omega) hlt
   simp only [if_true, hst.1]
   exact ih (i + 1) (by omega) hst.2
  | false =>
   simp only [Bool.false_eq_true, if_false]
   unfold parseM parseOk
   rw [all_not hg hp]
   simpa using Ev.some
theorem spec_parse (s : ByteArray) (most : Int) (hs : s.size ≤ 9223372036854775807) : Ev (fun k => spec_ParseNum.f k s most) (parseM s most) := by
 unfold spec_ParseNum.f
 by_cases h7 : s.size ≤ 7
 ·exact spec_parse_l s most h7 s.size 0 (by omega) (by simp)
 ·have := spec_parse_big s most (by omega) hs 8 0 0 (by omega)
  have hin : inB (s.size : Int) 1 7 = false := by unfold inB; simp; omega
  unfold parseM parseOk
  rw [hin]
  simpa using this
theorem impl_parse_l (s : ByteArray) (most : Int) (hs1 : 1 ≤ s.size) (hs : s.size ≤ 7) (d : Nat) : ∀ (i : Nat), i + d = s.size → (∀ c ∈ s.data.toList.take i, digL c = true) → Ev (fun k => impl_ParseNum.l0 k s most (valL (s.data.toList.take i) : Int) (i : Int)) (parseM s most) := by
 have hin : inB (s.size : Int) 1 7 = true := by unfold inB; simp; omega
 induction d with
 | zero =>
  intro i hi hd
  obtain rfl : i = s.size := by omega
  have ht : s.data.toList.take s.size = s.data.toList := List.take_of_length_le (by simp)
  rw [ht] at hd ⊢
  have hall : s.data.toList.all digL = true := List.all_eq_true.2 hd
  have hv := valL_lt s.size s.data.toList (by simp) hd
  have hp : 10 ^ s.size ≤ 10 ^ 7 := Nat.pow_le_pow_right (by omega) (by omega)
  have hp7 : 10 ^ 7 = 10000000 := by decide
  refine Ev.succ ?_
  simp only [impl_ParseNum.l0, show ¬ (s.size : Int) < (s.size : Int) by omega, if_false]
  simp only [impl_num (valL s.data.toList : Int) (by omega), Option.bind_some, toList_data]
  unfold numB parseM parseOk
  rw [data_ofL, Int.toNat_natCast, hall, hin]
  by_cases hn : noLead s.data.toList = true
  ·have he := decDigits_val _ _ rfl hd hn
   simp only [he, if_true, hn, Bool.true_and, true_and]
   by_cases hm : (valL s.data.toList : Int) > most
   ·simp only [hm, if_true]
    rw [if_neg (by unfold valB; omega)]
    exact Ev.some
   ·simp only [hm, if_false]
    rw [if_pos (by unfold valB; omega)]
    exact Ev.some
  ·have he : ¬ Lib.decDigits (valL s.data.toList) = s.data.toList := fun e => hn (noLead_of_dec e)
   simp only [he, if_false, hn, Bool.true_and, false_and]
   exact Ev.some
 | succ d ih =>
  intro i hi hd
  have hlt : i < s.size := by omega
  have h1 : (i : Int) < (s.size : Int) := by omega
  have h2 : (0 : Int) ≤ (i : Int) := by omega
  have h3 := next_i hlt (by omega)
  obtain ⟨b, _, hbt, hg⟩ := data_drop hlt
  refine Ev.succ ?_
  simp only [impl_ParseNum.l0, if_true, h1, h2, h3, digit_impl, Option.bind_some]
  rw [hbt]
  show Ev (fun k => if digL b = true then _ else _) _
  cases hp : digL b with
  | true =>
   have hst := step_val hg hp hd (by omega) hlt
   simp only [if_true, hst.1]
   exact ih (i + 1) (by omega) hst.2
  | false =>
   simp only [Bool.false_eq_true, if_false]
   unfold parseM parseOk
   rw [all_not hg hp]
   simpa using Ev.some
theorem impl_parse (s : ByteArray) (most : Int) : Ev (fun k => impl_ParseNum.f k s most) (parseM s most) := by
 unfold impl_ParseNum.f
 simp only [inRange_f, Option.bind_some]
 cases hb : inB (s.size : Int) 1 7 with
 | false =>
  unfold parseM parseOk
  rw [hb]
  simpa using Ev.some
 | true =>
  have hb' := hb
  unfold inB at hb'
  simp at hb'
  simp only [if_true]
  refine Ev.succ ?_
  simp only [impl_ParseNum.j0]
  exact impl_parse_l s most (by omega) (by omega) s.size 0 (by omega) (by simp)
end Go.Proofs.YtbjgmbhkofgjaaaDoor.Pure
namespace Go.Proofs.YtbjgmbhkofgjaaaDoor.Pure
open Go.RowKit Go.Proofs.YtbjgmbhkofgjaaaDoor.PGB Go.Proofs.YtbjgmbhkofgjaaaDoorW.PrintWords Go.Proofs.YtbjgmbhkofgjaaaDoorW.PrintLast Go.Proofs.YtbjgmbhkofgjaaaDoor.Aux
def digitsB (s : ByteArray) : Bool := (bs s).all digitB
theorem spec_digits_l (s : ByteArray) (hs : s.size ≤ 9223372036854775807) (d : Nat) : ∀ i : Nat, i + d = s.size → Ev (fun k => spec_l3Digits.l0 k s (i : Int)) (((bs s).drop i).all digitB) := by
 induction d with
 | zero =>
  intro i hi
  have h1 : ¬ (i : Int) < (s.size : Int) := by omega
  refine Ev.succ ?_
  simp only [spec_l3Digits.l0, h1, if_false, bs_end (show s.size ≤ i by omega), List.all_nil]
  exact Ev.some
 | succ d ih =>
  intro i hi
  have h1 : (i : Int) < (s.size : Int) := by omega
  have h2 : (0 : Int) ≤ (i : Int) := by omega
  have h3 := next_i (show i < s.size by omega) hs
  have ih' := ih (i + 1) (by omega)
  refine Ev.succ ?_
  rw [bs_drop (by omega), List.all_cons]
  simp only [spec_l3Digits.l0, h1, h2, h3, if_true, digit_spec (bt_range s i), Option.bind_some]
  cases hp : digitB (bt s (i : Int)) with
  | true => simpa using ih'
  | false => simpa using Ev.some
theorem spec_digits (s : ByteArray) (hs : s.size ≤ 9223372036854775807) : Ev (fun k => spec_l3Digits.f k s) (digitsB s) := spec_digits_l s hs s.size 0 (by omega)
theorem impl_figures_l (s : ByteArray) (hs : s.size ≤ 9223372036854775807) (d : Nat) : ∀ i : Nat, i + d = s.size → Ev (fun k => impl_isFigures.l0 k s (i : Int)) (((bs s).drop i).all digitB && decide (s.size ≠ 0)) := by
 induction d with
 | zero =>
  intro i hi
  have h1 : ¬ (i : Int) < (s.size : Int) := by omega
  refine Ev.succ ?_
  simp only [impl_isFigures.l0, h1, if_false, bs_end (show s.size ≤ i by omega), List.all_nil, Bool.true_and]
  refine Ev.cast Ev.some ?_
  rw [toList_data]
  by_cases h : s.size = 0
  ·have : s.data.toList = [] := by
    apply List.eq_nil_of_length_eq_zero
    simpa using h
   rw [this, h]
   rfl
  ·have : s.data.toList ≠ [] := by
    intro e
    apply h
    have := congrArg List.length e
    simpa using this
   simp [h, this]
 | succ d ih =>
  intro i hi
  have h1 : (i : Int) < (s.size : Int) := by omega
  have h2 : (0 : Int) ≤ (i : Int) := by omega
  have h3 := next_i (show i < s.size by omega) hs
  have ih' := ih (i + 1) (by omega)
  refine Ev.succ ?_
  rw [bs_drop (by omega), List.all_cons]
  simp only [impl_isFigures.l0, h1, h2, h3, if_true, digit_impl, Option.bind_some]
  cases hp : digitB (bt s (i : Int)) with
  | true => simpa using ih'
  | false => simpa using Ev.some
theorem impl_figures (s : ByteArray) (hs : s.size ≤ 9223372036854775807) : Ev (fun k => impl_isFigures.f k s) (digitsB s && decide (s.size ≠ 0)) := impl_figures_l s hs s.size 0 (by omega)
end Go.Proofs.YtbjgmbhkofgjaaaDoor.Pure
namespace Go.Proofs.YtbjgmbhkofgjaaaDoor.Pure
open Go.RowKit Go.Proofs.YtbjgmbhkofgjaaaDoor.PGB Go.Proofs.YtbjgmbhkofgjaaaDoorW.PrintWords Go.Proofs.YtbjgmbhkofgjaaaDoorW.PrintLast Go.Proofs.YtbjgmbhkofgjaaaDoor.Aux
def preC (x : Int) : Bool := smallB x || upperB x || digitB x || decide (x = 45)
def preEnd (s : ByteArray) : Bool := inB s.size 1 8 && (!digitsB s || decide (s.size = 1) || decide (bt s 0 ≠ 48))
def preB (s : ByteArray) : Bool := (bs s).all preC && preEnd s
theorem spec_part_l (s : ByteArray) (hs : s.size ≤ 9223372036854775807) (d : Nat) : ∀ i : Nat, i + d = s.size → Ev (fun k => spec_l3Part.l0 k s (i : Int)) (((bs s).drop i).all preC && preEnd s) := by
 induction d with
 | zero =>
  intro i hi
  have h1 : ¬ (i : Int) < (s.size : Int) := by omega
  refine Ev.succ ?_
  simp only [spec_l3Part.l0, h1, if_false, bs_end (show s.size ≤ i by omega), List.all_nil, Bool.true_and, in_f, Option.bind_some, preEnd]
  cases hb : inB (s.size : Int) 1 8 with
  | false => simpa using Ev.some
  | true =>
   simp only [if_true, Bool.true_and]
   refine Ev.bind (spec_digits s hs) ?_
   cases hd : digitsB s with
   | false => simpa using Ev.some
   | true =>
    have hpos : (0 : Int) < (s.size : Int) := by simp [inB] at hb; omega
    simp only [if_true, hpos, Bool.not_true, Bool.false_or]
    by_cases he : (s.size : Int) = 1
    ·simp only [he, if_true]
     refine Ev.cast Ev.some ?_
     simp [show s.size = 1 by omega]
    ·simp only [he, if_false]
     refine Ev.cast Ev.some ?_
     simp only [show ¬ s.size = 1 by omega, decide_false, Bool.false_or]
     by_cases h0 : bt s 0 = 48 <;> simp [h0]
 | succ d ih =>
  intro i hi
  have h1 : (i : Int) < (s.size : Int) := by omega
  have h2 : (0 : Int) ≤ (i : Int) := by omega
  have h3 := next_i (show i < s.size by omega) hs
  have ih' := ih (i + 1) (by omega)
  have hr := bt_range s i
  refine Ev.succ ?_
  rw [bs_drop (by omega), List.all_cons]
  simp only [spec_l3Part.l0, h1, if_true]
  refine Ev.succ ?_
  simp only [spec_l3Part.j1, h1, h2, h3, if_true, digit_spec hr, small_spec hr, wrap64_id (show -9223372036854775808 ≤ bt s (i : Int) by omega) (show bt s (i : Int) ≤ 9223372036854775807 by omega), in_f, Option.bind_some, preC]
  cases hp : digitB (bt s (i : Int)) with
  | true => simpa using ih'
  | false =>
   cases hq : smallB (bt s (i : Int)) with
   | true => simpa using ih'
   | false =>
    cases hu : inB (bt s (i : Int)) 65 90 with
    | true => simpa [upperB, hu] using ih'
    | false =>
     by_cases he : bt s (i : Int) = 45
     ·simpa [he] using ih'
     ·simpa [upperB, hu, he] using Ev.some
theorem spec_part (s : ByteArray) (hs : s.size ≤ 9223372036854775807) : Ev (fun k => spec_l3Part.f k s) (preB s) := spec_part_l s hs s.size 0 (by omega)
theorem one_zero (s : ByteArray) : s.toList = ([48] : List UInt8) ↔ (s.size = 1 ∧ bt s 0 = 48) := by
 rw [toList_data]
 constructor
 ·intro h
  have hl : s.size = 1 := by
   have := congrArg List.length h
   simpa using this
  refine ⟨hl, ?_⟩
  rw [bt_bs]
  unfold bs
  rw [h]
  rfl
 ·rintro ⟨h1, h2⟩
  rw [bt_bs] at h2
  have hb : bs s = [48] := by
   have hl := bs_length s
   rw [h1] at hl
   match hq : bs s, hl with
   | [x], _ =>
    rw [hq] at h2
    simp at h2
    rw [h2]
  unfold bs at hb
  match hq : s.data.toList with
  | [] => rw [hq] at hb; cases hb
  | [x] =>
   rw [hq] at hb
   simp at hb
   have : x = 48 := by
    apply UInt8.toNat_inj.1
    simp
    omega
   rw [this]
  | x :: y :: r => rw [hq] at hb; simp at hb
theorem impl_pre_l (s : ByteArray) (hs : s.size ≤ 9223372036854775807) (d : Nat) : ∀ i : Nat, i + d = s.size → Ev (fun k => impl_preOk.l0 k s (i : Int)) (((bs s).drop i).all preC && preEnd s) := by
 induction d with
 | zero =>
  intro i hi
  have h1 : ¬ (i : Int) < (s.size : Int) := by omega
  refine Ev.succ ?_
  simp only [impl_preOk.l0, h1, if_false, bs_end (show s.size ≤ i by omega), List.all_nil, Bool.true_and, inRange_f, Option.bind_some, preEnd]
  cases hb : inB (s.size : Int) 1 8 with
  | false => simpa using Ev.some
  | true =>
   simp only [if_true, Bool.true_and]
   have hpos : (0 : Int) < (s.size : Int) := by simp [inB] at hb; omega
   refine Ev.bind (impl_figures s hs) ?_
   simp only [show s.size ≠ 0 by omega, ne_eq, not_false_eq_true, decide_true, Bool.and_true]
   cases hd : digitsB s with
   | false => simpa using Ev.some
   | true =>
    simp only [if_true, hpos, Bool.not_true, Bool.false_or, one_zero]
    by_cases he : s.size = 1
    ·by_cases h0 : bt s 0 = 48
     ·simp only [he, h0, and_self, if_true]
      exact Ev.some
     ·simp only [he, h0, and_false, if_false]
      refine Ev.cast Ev.some ?_
      simp [h0]
    ·simp only [he, false_and, if_false]
     refine Ev.cast Ev.some ?_
     simp only [decide_false, Bool.false_or]
     by_cases h0 : bt s 0 = 48 <;> simp [h0]
 | succ d ih =>
  intro i hi
  have h1 : (i : Int) < (s.size : Int) := by omega
  have h2 : (0 : Int) ≤ (i : Int) := by omega
  have h3 := next_i (show i < s.size by omega) hs
  have ih' := ih (i + 1) (by omega)
  have hr := bt_range s i
  refine Ev.succ ?_
  rw [bs_drop (by omega), List.all_cons]
  simp only [impl_preOk.l0, h1, if_true]
  refine Ev.succ ?_
  simp only [impl_preOk.j1, h1, h2, h3, if_true, digit_impl, small_impl, Option.bind_some, preC, upperB, inB, ge_iff_le]
  cases hq : smallB (bt s (i : Int)) with
  | true => simpa using ih'
  | false =>
   by_cases ha : 65 ≤ bt s (i : Int)
   ·by_cases hb : bt s (i : Int) ≤ 90
    ·simpa [ha, hb] using ih'
    ·cases hp : digitB (bt s (i : Int)) with
     | true => simpa [ha, hb] using ih'
     | false =>
      by_cases he : bt s (i : Int) = 45
      ·simp [he] at ha
      ·simpa [ha, hb, he] using Ev.some
   ·cases hp : digitB (bt s (i : Int)) with
    | true => simpa [ha] using ih'
    | false =>
     by_cases he : bt s (i : Int) = 45
     ·simpa [he] using ih'
     ·simpa [ha, he] using Ev.some
theorem impl_pre (s : ByteArray) (hs : s.size ≤ 9223372036854775807) : Ev (fun k => impl_preOk.f k s) (preB s) := impl_pre_l s hs s.size 0 (by omega)
def verEnd (a b c : Int) (l : List ByteArray) : Bool := inB a 0 9999 && (inB b 0 9999 && (inB c 0 9999 && decide ((l.length : Int) ≤ 3)))
def verB (a b c : Int) (l : List ByteArray) : Bool := l.all preB && verEnd a b c l
theorem spec_ver_l (a b c : Int) (l : List ByteArray) (hl : l.length ≤ 9223372036854775807) (hs : ∀ x ∈ l, x.size ≤ 9223372036854775807) (d : Nat) : ∀ i : Nat, i + d = l.length → Ev (fun k => spec_VerOk.l0 k (i : Int) a b c l) ((l.drop i).all preB && verEnd a b c l) := by
 induction d with
 | zero =>
  intro i hi
  have h1 : ¬ (i : Int) < (l.length : Int) := by omega
  refine Ev.succ ?_
  rw [List.drop_eq_nil_of_le (by omega)]
  simp only [spec_VerOk.l0, h1, if_false, List.all_nil, Bool.true_and, in_f, Option.bind_some, verEnd]
  cases inB a 0 9999 <;> cases inB b 0 9999 <;> cases inB c 0 9999 <;> simpa using Ev.some
 | succ d ih =>
  intro i hi
  have hlt : i < l.length := by omega
  have h1 : (i : Int) < (l.length : Int) := by omega
  have h2 : (0 : Int) ≤ (i : Int) := by omega
  have h3 := next_i hlt hl
  have ih' := ih (i + 1) (by omega)
  refine Ev.succ ?_
  rw [drop_get hlt, List.all_cons]
  simp only [spec_VerOk.l0, h1, h2, h3, if_true, rdOf_cast _ hlt]
  refine Ev.bind (spec_part l[i] (hs _ (List.getElem_mem hlt))) ?_
  cases hp : preB l[i] with
  | true => simpa using ih'
  | false => simpa using Ev.some
theorem spec_ver (a b c : Int) (l : List ByteArray) (hl : l.length ≤ 9223372036854775807) (hs : ∀ x ∈ l, x.size ≤ 9223372036854775807) : Ev (fun k => spec_VerOk.f k a b c l) (verB a b c l) := spec_ver_l a b c l hl hs l.length 0 (by omega)
theorem impl_ver_l (a b c : Int) (l : List ByteArray) (hl : l.length ≤ 9223372036854775807) (hs : ∀ x ∈ l, x.size ≤ 9223372036854775807) (d : Nat) : ∀ i : Nat, i + d = l.length → Ev (fun k => impl_VerOk.l0 k l (l.length : Int) (i : Int) a b c l) ((l.drop i).all preB && verEnd a b c l) := by
 induction d with
 | zero =>
  intro i hi
  have h1 : ¬ (i : Int) < (l.length : Int) := by omega
  refine Ev.succ ?_
  rw [List.drop_eq_nil_of_le (by omega)]
  simp only [impl_VerOk.l0, h1, if_false, List.all_nil, Bool.true_and, inRange_f, Option.bind_some, verEnd]
  cases inB a 0 9999 <;> cases inB b 0 9999 <;> cases inB c 0 9999 <;> simpa using Ev.some
 | succ d ih =>
  intro i hi
  have hlt : i < l.length := by omega
  have h1 : (i : Int) < (l.length : Int) := by omega
  have h2 : (0 : Int) ≤ (i : Int) := by omega
  have h3 := next_i hlt hl
  have ih' := ih (i + 1) (by omega)
  refine Ev.succ ?_
  rw [drop_get hlt, List.all_cons]
  simp only [impl_VerOk.l0, h1, h2, h3, if_true, rdOf_cast _ hlt]
  refine Ev.bind (impl_pre l[i] (hs _ (List.getElem_mem hlt))) ?_
  cases hp : preB l[i] with
  | true => simpa using ih'
  | false => simpa using Ev.some
theorem impl_ver (a b c : Int) (l : List ByteArray) (hl : l.length ≤ 9223372036854775807) (hs : ∀ x ∈ l, x.size ≤ 9223372036854775807) : Ev (fun k => impl_VerOk.f k a b c l) (verB a b c l) := impl_ver_l a b c l hl hs l.length 0 (by omega)
end Go.Proofs.YtbjgmbhkofgjaaaDoor.Pure
namespace Go.Proofs.YtbjgmbhkofgjaaaDoor.Pure
open Go.RowKit Go.Proofs.YtbjgmbhkofgjaaaDoor.PGB Go.Proofs.YtbjgmbhkofgjaaaDoorW.PrintWords Go.Proofs.YtbjgmbhkofgjaaaDoorW.PrintLast Go.Proofs.YtbjgmbhkofgjaaaDoor.Aux
theorem decDigits_length : ∀ (m u : Nat), u < 10 ^ (m + 1) → (Lib.decDigits u).length ≤ m + 1
 | 0, u, h => by
  rw [Lib.decDigits, dif_pos (by simpa using h)]
  simp
 | m + 1, u, h => by
  by_cases h9 : u < 10
  ·rw [Lib.decDigits, dif_pos h9]
   simp
  ·have := decDigits_length m (u / 10) (by rw [Nat.pow_succ] at h; omega)
   rw [Lib.decDigits, dif_neg h9, List.length_append]
   simp only [List.length_cons, List.length_nil]
   omega
theorem numB_size {x : Int} (h : x ≤ 9223372036854775807) : (numB x).size ≤ 19 := by
 unfold numB
 rw [ofL_size]
 exact decDigits_length 18 _ (by omega)
def dot : ByteArray := ⟨#[46]⟩
def dash : ByteArray := ⟨#[45]⟩
theorem dot_size : (⟨#[46]⟩ : ByteArray).size = 1 := rfl
theorem dash_size : (⟨#[45]⟩ : ByteArray).size = 1 := rfl
theorem app_assoc (a b c : ByteArray) : a ++ b ++ c = a ++ (b ++ c) := by
 rw [← ofL_data (a ++ b ++ c), ← ofL_data (a ++ (b ++ c))]
 simp
def verCore (a b c : Int) : ByteArray := numB a ++ dot ++ numB b ++ dot ++ numB c
def verT (a b c : Int) (l : List ByteArray) : ByteArray := if verB a b c l = true then (if (l.length : Int) > 0 then verCore a b c ++ (dash ++ joinB l dot) else verCore a b c) else ⟨#[]⟩
theorem ver_parts {a b c : Int} {l : List ByteArray} (h : verB a b c l = true) : 0 ≤ a ∧ a ≤ 9999 ∧ 0 ≤ b ∧ b ≤ 9999 ∧ 0 ≤ c ∧ c ≤ 9999 ∧ l.length ≤ 3 := by
 unfold verB verEnd inB at h
 simp at h
 omega
theorem spec_vertext (a b c : Int) (l : List ByteArray) (hl : l.length ≤ 9223372036854775807) (hs : ∀ x ∈ l, x.size ≤ 9223372036854775807) (hN : joinN l dot ≤ 2199023255552) : Ev (fun k => spec_VerText.f k a b c l) (verT a b c l) := by
 unfold spec_VerText.f verT
 refine Ev.bind (spec_ver a b c l hl hs) ?_
 cases hv : verB a b c l with
 | false => simpa using Ev.some
 | true =>
  obtain ⟨a0, a1, b0, b1, c0, c1, l3⟩ := ver_parts hv
  have na := numB_size (x := a) (by omega)
  have nb := numB_size (x := b) (by omega)
  have nc := numB_size (x := c) (by omega)
  have hj := joinB_size l dot
  simp only [if_true]
  refine Ev.succ ?_
  simp only [spec_VerText.j0]
  refine Ev.bind (spec_num a (by omega)) ?_
  refine Ev.yes (by omega) ?_
  refine Ev.bind (spec_num b (by omega)) ?_
  refine Ev.yes (by simp only [ByteArray.size_append, dot_size]; omega) ?_
  refine Ev.yes (by simp only [ByteArray.size_append, dot_size]; omega) ?_
  refine Ev.bind (spec_num c (by omega)) ?_
  refine Ev.yes (by simp only [ByteArray.size_append, dot_size]; omega) ?_
  by_cases hp : (l.length : Int) > 0
  ·simp only [hp, if_true]
   refine Ev.yes (by simp only [ByteArray.size_append, dot_size]; omega) ?_
   refine Ev.bind (spec_join l dot (by omega) (by omega)) ?_
   refine Ev.yes (by simp only [ByteArray.size_append, dot_size, dash_size]; omega) ?_
   exact Ev.cast Ev.some (by rw [app_assoc]; rfl)
  ·simp only [hp, if_false]
   exact Ev.some
theorem impl_vertext (a b c : Int) (l : List ByteArray) (hl : l.length ≤ 9223372036854775807) (hs : ∀ x ∈ l, x.size ≤ 9223372036854775807) (hN : joinN l dot ≤ 2199023255552) : Ev (fun k => impl_VerText.f k a b c l) (verT a b c l) := by
 unfold impl_VerText.f verT
 refine Ev.bind (impl_ver a b c l hl hs) ?_
 cases hv : verB a b c l with
 | false => simpa using Ev.some
 | true =>
  obtain ⟨a0, a1, b0, b1, c0, c1, l3⟩ := ver_parts hv
  have na := numB_size (x := a) (by omega)
  have nb := numB_size (x := b) (by omega)
  have nc := numB_size (x := c) (by omega)
  have hj := joinB_size l dot
  simp only [if_true]
  refine Ev.succ ?_
  simp only [impl_VerText.j0, impl_num a (show a ≤ 9223372036854775807 by omega), impl_num b (show b ≤ 9223372036854775807 by omega), impl_num c (show c ≤ 9223372036854775807 by omega), Option.bind_some]
  refine Ev.yes (by omega) ?_
  refine Ev.yes (by simp only [ByteArray.size_append, dot_size]; omega) ?_
  refine Ev.yes (by simp only [ByteArray.size_append, dot_size]; omega) ?_
  refine Ev.yes (by simp only [ByteArray.size_append, dot_size]; omega) ?_
  by_cases hp : (l.length : Int) > 0
  ·have hsj : strings_Join.f l (⟨#[46]⟩ : ByteArray) = some (joinB l dot) := strings_join l dot (by omega) (by omega)
   simp only [hp, if_true, hsj, Option.bind_some]
   refine Ev.yes (by omega) ?_
   refine Ev.yes (by simp only [ByteArray.size_append, dot_size, dash_size]; omega) ?_
   exact Ev.some
  ·simp only [hp, if_false]
   exact Ev.some
end Go.Proofs.YtbjgmbhkofgjaaaDoor.Pure
namespace Go.Proofs.YtbjgmbhkofgjaaaDoor.Pure
open Go.RowKit Go.Proofs.YtbjgmbhkofgjaaaDoor.PGB Go.Proofs.YtbjgmbhkofgjaaaDoorW.PrintWords Go.Proofs.YtbjgmbhkofgjaaaDoorW.PrintLast Go.Proofs.YtbjgmbhkofgjaaaDoor.Aux
abbrev VerR := Int × Int × Int × List ByteArray × Bool
def noVer : VerR := (0, 0, 0, [], false)
/-- What is read of the numbers' three pieces and of what stands behind the dash. -/
def readV (p0 p1 p2 : ByteArray) (q : List ByteArray) : VerR :=
 if (parseM p0 9999).2 = true ∧ (parseM p1 9999).2 = true ∧ (parseM p2 9999).2 = true ∧ verB (parseM p0 9999).1 (parseM p1 9999).1 (parseM p2 9999).1 q = true
 then ((parseM p0 9999).1, (parseM p1 9999).1, (parseM p2 9999).1, q, true) else noVer
def preQ (s : ByteArray) : List ByteArray := if hasB 45 s = true then piecesB (tailB 45 s) dot else []
def numQ (s : ByteArray) : List ByteArray := piecesB (headB 45 s) dot
def parseV (s : ByteArray) : VerR := if (numQ s).length = 3 then readV (rdOf ByteArray.empty (numQ s) 0) (rdOf ByteArray.empty (numQ s) 1) (rdOf ByteArray.empty (numQ s) 2) (preQ s) else noVer
theorem preQ_length (s : ByteArray) : (preQ s).length ≤ s.size + 1 := by
 unfold preQ
 split
 ·have h1 := pieces_length (s := tailB 45 s) (sep := dot) (by decide)
  have h2 := tailB_size 45 s
  omega
 ·simp
theorem preQ_mem (s : ByteArray) : ∀ x ∈ preQ s, x.size ≤ s.size := by
 unfold preQ
 split
 ·intro x hx
  have h1 := pieces_mem (s := tailB 45 s) (sep := dot) (by simp [dot]) x hx
  have h2 := tailB_size 45 s
  omega
 ·intro x hx
  cases hx
theorem numQ_mem (s : ByteArray) : ∀ x ∈ numQ s, x.size ≤ s.size := by
 intro x hx
 have h1 := pieces_mem (s := headB 45 s) (sep := dot) (by simp [dot]) x hx
 have h2 := headB_size 45 s
 omega
theorem rd_mem {l : List ByteArray} {i : Nat} (h : i < l.length) : rdOf ByteArray.empty l (i : Int) ∈ l := by
 rw [rdOf_cast _ h]
 exact List.getElem_mem h
theorem spec_pv_nums (k0 : Nat) (p0 p1 p2 : ByteArray) (q : List ByteArray) (h0 : p0.size ≤ 16777216) (h1 : p1.size ≤ 16777216) (h2 : p2.size ≤ 16777216) (hq : q.length ≤ 16777217) (hqs : ∀ x ∈ q, x.size ≤ 16777216) (a b c : Int) :
  Ev (fun k => spec_ParseVer.j3 k [p0, p1, p2] a b c q) (readV p0 p1 p2 q) := by
 refine Ev.succ ?_
 simp only [spec_ParseVer.j3, List.length_cons, List.length_nil, show (0 : Int) < ((0 + 1 + 1 + 1 : Nat) : Int) by omega, show (1 : Int) < ((0 + 1 + 1 + 1 : Nat) : Int) by omega, show (2 : Int) < ((0 + 1 + 1 + 1 : Nat) : Int) by omega, if_true,
  show rdOf ByteArray.empty [p0, p1, p2] 0 = p0 from rfl, show rdOf ByteArray.empty [p0, p1, p2] 1 = p1 from rfl, show rdOf ByteArray.empty [p0, p1, p2] 2 = p2 from rfl]
 refine Ev.bind (spec_parse p0 9999 (by omega)) (Ev.bind (spec_parse p1 9999 (by omega)) (Ev.bind (spec_parse p2 9999 (by omega)) ?_))
 unfold readV
 by_cases e0 : (parseM p0 9999).2 = true
 ·by_cases e1 : (parseM p1 9999).2 = true
  ·by_cases e2 : (parseM p2 9999).2 = true
   ·simp only [e0, e1, e2, if_true, true_and]
    refine Ev.bind (spec_ver _ _ _ q (by omega) (fun x hx => by have := hqs x hx; omega)) ?_
    cases hv : verB (parseM p0 9999).1 (parseM p1 9999).1 (parseM p2 9999).1 q with
    | true =>
     simp only [if_true]
     exact Ev.some
    | false =>
     simp only [Bool.false_eq_true, if_false]
     exact Ev.some
   ·simp only [e0, e1, e2, if_true, if_false, true_and, false_and, Bool.false_eq_true]
    exact Ev.some
  ·simp only [e0, e1, if_true, if_false, true_and, false_and, Bool.false_eq_true]
   exact Ev.some
 ·simp only [e0, if_false, false_and, Bool.false_eq_true]
  exact Ev.some
theorem three {l : List ByteArray} (h : l.length = 3) : l = [rdOf ByteArray.empty l 0, rdOf ByteArray.empty l 1, rdOf ByteArray.empty l 2] := by
 match l, h with
 | [a, b, c], _ => rfl
theorem spec_pv_j2 (s : ByteArray) (hs : s.size ≤ 16777216) (a b c : Int) (q : List ByteArray) (hq : q = preQ s) : Ev (fun k => spec_ParseVer.j2 k s (at1 45 s.data.toList : Int) a b c q) (parseV s) := by
 have hle := at1_le 45 s.data.toList
 have hsl : s.data.toList.length = s.size := by simp
 have hx : s.extract 0 (at1 45 s.data.toList) = headB 45 s := by rw [extract_ofL, List.drop_zero, Nat.sub_zero]; rfl
 have hh := headB_size 45 s
 refine Ev.succ ?_
 simp only [spec_ParseVer.j2, show (0 : Int) ≤ (at1 45 s.data.toList : Int) by omega, show (at1 45 s.data.toList : Int) ≤ (s.size : Int) by omega, if_true, Int.toNat_natCast, hx]
 refine Ev.bind (spec_split (headB 45 s) 46 (by omega)) ?_
 show Ev (fun k => if ((numQ s).length : Int) = 3 then _ else _) _
 unfold parseV
 by_cases h3 : (numQ s).length = 3
 ·refine Ev.yes (by omega) ?_
  rw [if_pos h3, hq]
  have hm : ∀ i : Nat, i < 3 → (rdOf ByteArray.empty (numQ s) (i : Int)).size ≤ 16777216 := fun i hi => by
   have := numQ_mem s _ (rd_mem (l := numQ s) (i := i) (by omega))
   omega
  have := spec_pv_nums 0 (rdOf ByteArray.empty (numQ s) 0) (rdOf ByteArray.empty (numQ s) 1) (rdOf ByteArray.empty (numQ s) 2) (preQ s) (hm 0 (by omega)) (hm 1 (by omega)) (hm 2 (by omega))
   (by have := preQ_length s; omega) (fun x hx => by have := preQ_mem s x hx; omega) a b c
  rw [← three h3] at this
  exact this
 ·refine Ev.no (by omega) ?_
  rw [if_neg h3]
  exact Ev.some
theorem spec_pv_j1 (s : ByteArray) (hs : s.size ≤ 16777216) (a b c : Int) : Ev (fun k => spec_ParseVer.j1 k s (at1 45 s.data.toList : Int) a b c) (parseV s) := by
 have hsl : s.data.toList.length = s.size := by simp
 have ht := tailB_size 45 s
 refine Ev.succ ?_
 simp only [spec_ParseVer.j1]
 by_cases h : at1 45 s.data.toList < s.data.toList.length
 ·have hx : s.extract (at1 45 s.data.toList + 1) s.size = tailB 45 s := by
   rw [extract_ofL, List.take_of_length_le (by rw [List.length_drop]; omega)]
   rfl
  rw [next_i (show at1 45 s.data.toList < s.size by omega) (by omega)]
  refine Ev.yes (by omega) (Ev.yes (by omega) (Ev.yes (by omega) ?_))
  rw [Int.toNat_natCast, hx]
  refine Ev.bind (spec_split (tailB 45 s) 46 (by omega)) ?_
  refine spec_pv_j2 s hs a b c _ ?_
  unfold preQ
  rw [if_pos (by simpa [hasB] using h)]
  rfl
 ·refine Ev.no (by omega) ?_
  refine spec_pv_j2 s hs a b c _ ?_
  unfold preQ
  rw [if_neg (by simpa [hasB] using h)]
theorem spec_pv_l (s : ByteArray) (hs : s.size ≤ 16777216) (a b c : Int) (d : Nat) : ∀ i : Nat, i + d = s.size → at1 45 s.data.toList = i + at1 45 (s.data.toList.drop i) → Ev (fun k => spec_ParseVer.l0 k s (i : Int) a b c) (parseV s) := by
 have hj := spec_pv_j1 s hs a b c
 induction d with
 | zero =>
  intro i hi he
  obtain rfl : i = s.size := by omega
  have hd : s.data.toList.drop s.size = [] := List.drop_eq_nil_of_le (by simp)
  rw [hd, at1_nil] at he
  rw [he] at hj
  refine Ev.succ ?_
  simp only [spec_ParseVer.l0, show ¬ (s.size : Int) < (s.size : Int) by omega, if_false]
  simpa using hj
 | succ d ih =>
  intro i hi he
  have hlt : i < s.size := by omega
  have h3 := next_i hlt (by omega)
  obtain ⟨b, hb, hbt, _⟩ := data_drop hlt
  refine Ev.succ ?_
  simp only [spec_ParseVer.l0, show (i : Int) < (s.size : Int) by omega, show (0 : Int) ≤ (i : Int) by omega, if_true, h3, hbt]
  rw [hb] at he
  by_cases e : b = 45
  ·subst e
   rw [at1_hit, Nat.add_zero] at he
   rw [he] at hj
   refine Ev.yes rfl ?_
   exact hj
  ·rw [at1_miss e] at he
   refine Ev.no (fun h => e (UInt8.toNat_inj.1 (by rw [show (45 : UInt8).toNat = 45 from rfl]; omega))) ?_
   exact ih (i + 1) (by omega) (by omega)
theorem spec_pv (s : ByteArray) (hs : s.size ≤ 16777216) : Ev (fun k => spec_ParseVer.f k s) (parseV s) := by
 unfold spec_ParseVer.f
 exact spec_pv_l s hs 0 0 0 s.size 0 (by omega) (by simp)
theorem numB_val {p : ByteArray} (h : (parseM p 9999).2 = true) : numB (parseM p 9999).1 = p := by
 unfold parseM at h ⊢
 split at h
 next hc =>
  rw [if_pos hc]
  have hp := hc.1
  unfold parseOk at hp
  simp only [Bool.and_eq_true, List.all_eq_true] at hp
  show numB (valB p) = p
  unfold numB valB
  rw [Int.toNat_natCast, decDigits_val _ _ rfl hp.2.1 hp.2.2, ofL_data]
 next => cases h
theorem join_three (p0 p1 p2 : ByteArray) : joinB [p0, p1, p2] dot = p0 ++ dot ++ p1 ++ dot ++ p2 := by
 rw [← ofL_data (p0 ++ dot ++ p1 ++ dot ++ p2)]
 unfold joinB dats dot
 simp [Lib.join_cons, Lib.joinTail]
/-- The text of what is read is the text. -/
theorem vert_back (s : ByteArray) (h3 : (numQ s).length = 3)
  (e0 : (parseM (rdOf ByteArray.empty (numQ s) 0) 9999).2 = true) (e1 : (parseM (rdOf ByteArray.empty (numQ s) 1) 9999).2 = true) (e2 : (parseM (rdOf ByteArray.empty (numQ s) 2) 9999).2 = true) (b : Bool)
  (hv : verB (parseM (rdOf ByteArray.empty (numQ s) 0) 9999).1 (parseM (rdOf ByteArray.empty (numQ s) 1) 9999).1 (parseM (rdOf ByteArray.empty (numQ s) 2) 9999).1 (preQ s) = b) :
  verT (parseM (rdOf ByteArray.empty (numQ s) 0) 9999).1 (parseM (rdOf ByteArray.empty (numQ s) 1) 9999).1 (parseM (rdOf ByteArray.empty (numQ s) 2) 9999).1 (preQ s) = if b = true then s else ⟨#[]⟩ := by
 unfold verT
 rw [hv]
 cases b with
 | false => rfl
 | true =>
  rw [if_pos rfl, if_pos rfl]
  have hc : verCore (parseM (rdOf ByteArray.empty (numQ s) 0) 9999).1 (parseM (rdOf ByteArray.empty (numQ s) 1) 9999).1 (parseM (rdOf ByteArray.empty (numQ s) 2) 9999).1 = headB 45 s := by
   unfold verCore
   rw [numB_val e0, numB_val e1, numB_val e2, ← join_three, ← three h3]
   exact joinB_pieces _ 46
  rw [hc]
  unfold preQ
  cases hb : hasB 45 s with
  | true =>
   rw [if_pos rfl, if_pos (by have := List.length_pos_iff.2 (pieces_ne (tailB 45 s) dot); omega)]
   rw [show joinB (piecesB (tailB 45 s) dot) dot = tailB 45 s from joinB_pieces _ 46]
   exact head_has hb
  | false =>
   rw [if_neg (by simp)]
   exact head_not hb
theorem joinN_preQ (s : ByteArray) : joinN (preQ s) dot ≤ s.size + 1 := by
 unfold preQ
 split
 ·rw [show joinN (piecesB (tailB 45 s) dot) dot = (tailB 45 s).size + 1 from joinN_pieces _ 46]
  have := tailB_size 45 s
  omega
 ·unfold joinN
  simp [dats, Lib.lens]
theorem impl_pv_fin (s : ByteArray) (hs : s.size ≤ 16777216) (h3 : (numQ s).length = 3)
  (e0 : (parseM (rdOf ByteArray.empty (numQ s) 0) 9999).2 = true) (e1 : (parseM (rdOf ByteArray.empty (numQ s) 1) 9999).2 = true) (e2 : (parseM (rdOf ByteArray.empty (numQ s) 2) 9999).2 = true)
  (pre : ByteArray) (hp : hasB 45 s = true → pre = tailB 45 s) :
  Ev (fun k => impl_ParseVer.fin k s pre (hasB 45 s) (parseM (rdOf ByteArray.empty (numQ s) 0) 9999).1 (parseM (rdOf ByteArray.empty (numQ s) 1) 9999).1 (parseM (rdOf ByteArray.empty (numQ s) 2) 9999).1)
   (readV (rdOf ByteArray.empty (numQ s) 0) (rdOf ByteArray.empty (numQ s) 1) (rdOf ByteArray.empty (numQ s) 2) (preQ s)) := by
 have hl := preQ_length s
 have hm := preQ_mem s
 have hN := joinN_preQ s
 have hne : ¬ (ByteArray.mk #[]).toList = s.toList := by
  intro e
  have h1 := pieces_length (s := headB 45 s) (sep := dot) (by decide)
  have h2 := headB_size 45 s
  have h4 : (piecesB (headB 45 s) dot).length = 3 := h3
  rw [toList_data, toList_data] at e
  have h5 : s.data.toList.length = s.size := by simp
  rw [← e] at h5
  simp at h5
  omega
 have main : Ev (fun k => (impl_VerText.f k (parseM (rdOf ByteArray.empty (numQ s) 0) 9999).1 (parseM (rdOf ByteArray.empty (numQ s) 1) 9999).1 (parseM (rdOf ByteArray.empty (numQ s) 2) 9999).1 (preQ s)).bind fun t =>
   if t.toList = s.toList then some ((parseM (rdOf ByteArray.empty (numQ s) 0) 9999).1, (parseM (rdOf ByteArray.empty (numQ s) 1) 9999).1, (parseM (rdOf ByteArray.empty (numQ s) 2) 9999).1, preQ s, true) else some impl_ParseVer.no)
   (readV (rdOf ByteArray.empty (numQ s) 0) (rdOf ByteArray.empty (numQ s) 1) (rdOf ByteArray.empty (numQ s) 2) (preQ s)) := by
  refine Ev.bind (impl_vertext _ _ _ _ (by omega) (fun x hx => by have := hm x hx; omega) (by omega)) ?_
  unfold readV
  rw [vert_back s h3 e0 e1 e2 _ rfl]
  simp only [e0, e1, e2, true_and]
  cases hv : verB (parseM (rdOf ByteArray.empty (numQ s) 0) 9999).1 (parseM (rdOf ByteArray.empty (numQ s) 1) 9999).1 (parseM (rdOf ByteArray.empty (numQ s) 2) 9999).1 (preQ s) with
  | true =>
   simp only [if_true]
   exact Ev.some
  | false =>
   simp only [Bool.false_eq_true, if_false, hne]
   exact Ev.some
 unfold impl_ParseVer.fin
 cases hb : hasB 45 s with
 | true =>
  have hq : strings_Split.f pre (⟨#[46]⟩ : ByteArray) = some (preQ s) := by
   rw [hp hb, strings_split _ 46 (by have := tailB_size 45 s; omega)]
   unfold preQ
   rw [if_pos hb]
   rfl
  simp only [if_true, hq, Option.bind_some]
  exact main
 | false =>
  have hq : preQ s = [] := by unfold preQ; rw [hb]; rfl
  rw [hq] at main
  simp only [Bool.false_eq_true, if_false]
  rw [hq]
  exact main
theorem impl_pv (s : ByteArray) (hs : s.size ≤ 16777216) : Ev (fun k => impl_ParseVer.f k s) (parseV s) := by
 have hcut : ∃ pre : ByteArray, strings_Cut.f s (⟨#[45]⟩ : ByteArray) = some (headB 45 s, pre, hasB 45 s) ∧ (hasB 45 s = true → pre = tailB 45 s) := by
  unfold strings_Cut.f
  rw [if_pos (by omega), show (⟨#[45]⟩ : ByteArray).data.toList = [45] from rfl, cut_one]
  cases hb : hasB 45 s with
  | true =>
   refine ⟨tailB 45 s, ?_, fun _ => rfl⟩
   rw [if_pos rfl]
   try exact congrArg some (Prod.ext (ofL_data _) (Prod.ext (ofL_data _) rfl))
  | false =>
   refine ⟨ByteArray.mk #[], ?_, fun h => by cases h⟩
   rw [if_neg (by simp), head_not hb]
   try exact congrArg some (Prod.ext (ofL_data _) (Prod.ext rfl rfl))
 obtain ⟨pre, hcut, hp⟩ := hcut
 have hsp : strings_Split.f (headB 45 s) (⟨#[46]⟩ : ByteArray) = some (numQ s) := strings_split _ 46 (by have := headB_size 45 s; omega)
 unfold impl_ParseVer.f parseV
 simp only [hcut, hsp, Option.bind_some]
 by_cases h3 : (numQ s).length = 3
 ·simp only [h3, if_true]
  unfold impl_ParseVer.n3
  refine Ev.bind (impl_parse _ _) ?_
  by_cases e0 : (parseM (rdOf ByteArray.empty (numQ s) 0) 9999).2 = true
  ·simp only [e0, if_true]
   unfold impl_ParseVer.n2
   refine Ev.bind (impl_parse _ _) ?_
   by_cases e1 : (parseM (rdOf ByteArray.empty (numQ s) 1) 9999).2 = true
   ·simp only [e1, if_true]
    unfold impl_ParseVer.n1
    refine Ev.bind (impl_parse _ _) ?_
    by_cases e2 : (parseM (rdOf ByteArray.empty (numQ s) 2) 9999).2 = true
    ·simp only [e2, if_true]
     exact impl_pv_fin s hs h3 e0 e1 e2 pre hp
    ·unfold readV
     simp only [e2, if_false, false_and, and_false, Bool.false_eq_true] <;> exact Ev.some
   ·unfold readV
    simp only [e1, if_false, false_and, and_false, Bool.false_eq_true] <;> exact Ev.some
  ·unfold readV
   simp only [e0, if_false, false_and, Bool.false_eq_true] <;> exact Ev.some
 ·simp only [h3, if_false]
  exact Ev.some
theorem readV_length (p0 p1 p2 : ByteArray) (q : List ByteArray) : (readV p0 p1 p2 q).2.2.2.1.length ≤ 3 := by
 unfold readV
 split
 next h => have := ver_parts h.2.2.2; show q.length ≤ 3; omega
 next => exact Nat.zero_le _
theorem parseV_length (s : ByteArray) : (parseV s).2.2.2.1.length ≤ 3 := by
 unfold parseV
 split
 ·exact readV_length _ _ _ _
 ·exact Nat.zero_le _
end Go.Proofs.YtbjgmbhkofgjaaaDoor.Pure
namespace Go.Proofs.YtbjgmbhkofgjaaaDoor.Pure
open Go.RowKit Go.Proofs.YtbjgmbhkofgjaaaDoor.PGB Go.Proofs.YtbjgmbhkofgjaaaDoorW.PrintWords Go.Proofs.YtbjgmbhkofgjaaaDoorW.PrintLast Go.Proofs.YtbjgmbhkofgjaaaDoor.Aux
/-- With enough rounds there is an answer, of which p holds. -/
def Got {α : Type} (g : Nat → Option α) (p : α → Prop) : Prop := ∃ r, Ev g r ∧ p r
theorem Got.bind {α β : Type} {g : Nat → Option α} {f : Nat → α → Option β} {p : α → Prop} {q : β → Prop} (h : Got g p) (h' : ∀ r, p r → Got (fun k => f k r) q) : Got (fun k => (g k).bind (f k)) q := by
 obtain ⟨r, hr, hp⟩ := h
 obtain ⟨s, hs, hq⟩ := h' r hp
 exact ⟨s, Ev.bind hr hs, hq⟩
theorem Got.some {α : Type} {r : α} {p : α → Prop} (h : p r) : Got (fun _ => Option.some r) p := ⟨r, Ev.some, h⟩
theorem Got.succ {α : Type} {g : Nat → Option α} {p : α → Prop} (h : Got (fun k => g (k + 1)) p) : Got g p := by
 obtain ⟨r, hr, hp⟩ := h
 exact ⟨r, Ev.succ hr, hp⟩
theorem Got.const {α : Type} {o : Option α} {p : α → Prop} (h : ∃ r, o = Option.some r ∧ p r) : Got (fun _ => o) p := by
 obtain ⟨r, e, hp⟩ := h
 exact ⟨r, Ev.const e, hp⟩
theorem Got.of {α : Type} {g : Nat → Option α} {r : α} {p : α → Prop} (h : Ev g r) (hp : p r) : Got g p := ⟨r, h, hp⟩
theorem Got.mono {α : Type} {g : Nat → Option α} {p q : α → Prop} (h : Got g p) (hpq : ∀ r, p r → q r) : Got g q := by
 obtain ⟨r, hr, hp⟩ := h
 exact ⟨r, hr, hpq r hp⟩
theorem Got.cond {α : Type} {c : Prop} [Decidable c] {g f : Nat → Option α} {p : α → Prop} (h : c → Got g p) (h' : ¬c → Got f p) : Got (fun k => if c then g k else f k) p := by
 by_cases hc : c
 ·simpa only [hc, if_true] using h hc
 ·simpa only [hc, if_false] using h' hc
theorem Got.ev {α : Type} {g : Nat → Option α} {s : α} (h : Got g (fun r => r = s)) : Ev g s := by
 obtain ⟨r, hr, rfl⟩ := h
 exact hr
/-- A cursor stands within its bytes. -/
def Cur (b : List Int) (i : Int) : Prop := 0 ≤ i ∧ i ≤ (b.length : Int) ∧ b.length ≤ 140737488355328
theorem and255 (x : Int) : 0 ≤ Go.bits .and .i64 x 255 ∧ Go.bits .and .i64 x 255 ≤ 255 := by
 have h : (BitVec.ofInt 64 x &&& BitVec.ofInt 64 255).toNat ≤ 255 := by
  rw [BitVec.toNat_and]
  exact Nat.and_le_right
 have e : Go.bits .and .i64 x 255 = IntKind.wrap .i64 ((BitVec.ofInt 64 x &&& BitVec.ofInt 64 255).toNat : Int) := rfl
 rw [e, IntKind.wrap_i64]
 omega
theorem draw_byte (b : List Int) (i h : Int) (hc : Cur b i) : ∃ r, spec_l1Byte.f b i h = some r ∧ (0 ≤ r.1 ∧ r.1 ≤ 255) ∧ Cur b r.2.1 := by
 obtain ⟨c0, c1, c2⟩ := hc
 unfold spec_l1Byte.f
 by_cases h1 : i < (b.length : Int)
 ·simp only [h1, c0, if_true]
  refine ⟨_, rfl, and255 _, ?_⟩
  show Cur b (wrap64 (i + 1))
  rw [wrap64_id (by omega) (by omega)]
  exact ⟨by omega, by omega, c2⟩
 ·simp only [h1, if_false]
  exact ⟨_, rfl, and255 _, c0, c1, c2⟩
theorem draw_below (b : List Int) (i h n : Int) (hn : 0 < n) (hn' : n ≤ 9223372036854775807) (hc : Cur b i) : Got (fun k => spec_l1Below.f k b i h n) fun r => (0 ≤ r.1 ∧ r.1 < n) ∧ Cur b r.2.1 := by
 have tm : ∀ x : Int, 0 ≤ x → 0 ≤ Int.tmod x n ∧ Int.tmod x n < n := by
  intro x hx
  rw [Int.tmod_eq_emod_of_nonneg hx]
  exact ⟨Int.emod_nonneg _ (by omega), Int.emod_lt_of_pos _ hn⟩
 unfold spec_l1Below.f
 simp only [show ¬ n ≤ 0 by omega, if_false]
 refine Got.succ ?_
 simp only [spec_l1Below.j0, show ¬ n = 0 by omega, if_false]
 refine Got.cond (fun _ => ?_) (fun _ => ?_)
 ·refine Got.bind (Got.const (draw_byte b i h hc)) fun r hr => Got.some ?_
  exact ⟨tm _ hr.1.1, hr.2⟩
 ·refine Got.bind (Got.const (draw_byte b i h hc)) fun r hr => ?_
  refine Got.bind (Got.const (draw_byte b _ _ hr.2)) fun r2 hr2 => ?_
  refine Got.bind (Got.const (draw_byte b _ _ hr2.2)) fun r3 hr3 => Got.some ?_
  obtain ⟨a1, a2⟩ := hr.1
  obtain ⟨b1, b2⟩ := hr2.1
  obtain ⟨c1, c2⟩ := hr3.1
  refine ⟨tm _ ?_, hr3.2⟩
  rw [wrap64_id (i := r.1 * 65536) (by omega) (by omega), wrap64_id (i := r2.1 * 256) (by omega) (by omega), wrap64_id (i := r.1 * 65536 + r2.1 * 256) (by omega) (by omega), wrap64_id (by omega) (by omega)]
  omega
theorem draw_once (b : List Int) (i h n : Int) (hn : 0 < n) (hn' : n ≤ 9223372036854775807) (hc : Cur b i) : Got (fun k => spec_l1Once.f k b i h n) fun r => Cur b r.2.1 := by
 unfold spec_l1Once.f
 exact Got.bind (draw_below b i h n hn hn' hc) fun r hr => Got.some hr.2
theorem draw_str (b : List Int) (i h : Int) (l : List ByteArray) (hl : 0 < l.length) (hl' : l.length ≤ 1000000) (hc : Cur b i) : Got (fun k => spec_l1Str.f k b i h l) fun r => r.1 ∈ l ∧ Cur b r.2.1 := by
 unfold spec_l1Str.f
 refine Got.bind (draw_below b i h _ (by omega) (by omega) hc) fun r hr => ?_
 obtain ⟨⟨h0, h1⟩, h2⟩ := hr
 simp only [h0, h1, if_true]
 refine Got.some ⟨?_, h2⟩
 obtain ⟨j, hj⟩ := Int.eq_ofNat_of_zero_le h0
 rw [hj]
 have hlt : j < l.length := by omega
 show rdOf ByteArray.empty l (j : Int) ∈ l
 rw [rdOf_cast _ hlt]
 exact List.getElem_mem hlt
theorem draw_int (b : List Int) (i h : Int) (l : List Int) (hl : 0 < l.length) (hl' : l.length ≤ 1000000) (hc : Cur b i) : Got (fun k => spec_l1Int.f k b i h l) fun r => r.1 ∈ l ∧ Cur b r.2.1 := by
 unfold spec_l1Int.f
 refine Got.bind (draw_below b i h _ (by omega) (by omega) hc) fun r hr => ?_
 obtain ⟨⟨h0, h1⟩, h2⟩ := hr
 simp only [h0, h1, if_true]
 refine Got.some ⟨?_, h2⟩
 obtain ⟨j, hj⟩ := Int.eq_ofNat_of_zero_le h0
 rw [hj]
 have hlt : j < l.length := by omega
 show rd l (j : Int) ∈ l
 rw [rd_cast hlt]
 exact List.getElem_mem hlt
theorem draw_new_l (l : List Int) (hl : l.length ≤ 1000000000) (d : Nat) : ∀ (j : Nat) (x : Int), j + d = l.length → Got (fun k => spec_l1New.l0 k l x (j : Int)) fun r => r.1 = l ∧ r.2.1 = 0 := by
 induction d with
 | zero =>
  intro j x hj
  refine Got.succ ?_
  simp only [spec_l1New.l0, show ¬ (j : Int) < (l.length : Int) by omega, if_false]
  exact Got.some ⟨rfl, rfl⟩
 | succ d ih =>
  intro j x hj
  refine Got.succ ?_
  simp only [spec_l1New.l0, show (j : Int) < (l.length : Int) by omega, if_true, show (0 : Int) ≤ (j : Int) by omega, next_i (show j < l.length by omega) (by omega)]
  exact Got.cond (fun _ => ih (j + 1) _ (by omega)) (fun _ => Got.some ⟨rfl, rfl⟩)
theorem draw_new (l : List Int) (hl : l.length ≤ 1000000000) : Got (fun k => spec_l1New.f k l) fun r => r.1 = l ∧ r.2.1 = 0 := draw_new_l l hl l.length 0 _ (by omega)
theorem cur_new {l : List Int} (hl : l.length ≤ 1000000000) {r : List Int × Int × Int} (h : r.1 = l ∧ r.2.1 = 0) : Cur r.1 r.2.1 := by
 obtain ⟨h1, h2⟩ := h
 rw [h1, h2]
 exact ⟨by omega, by omega, by omega⟩
end Go.Proofs.YtbjgmbhkofgjaaaDoor.Pure
namespace Go.Proofs.YtbjgmbhkofgjaaaDoor.Pure
open Go.RowKit Go.Proofs.YtbjgmbhkofgjaaaDoor.PGB Go.Proofs.YtbjgmbhkofgjaaaDoorW.PrintWords Go.Proofs.YtbjgmbhkofgjaaaDoorW.PrintLast Go.Proofs.YtbjgmbhkofgjaaaDoor.Aux
theorem Ev.yes' {α : Type} {c : Prop} [Decidable c] {g f : Nat → Option α} {r : α} (hc : c) (h : Ev g r) : Ev (fun k => if c then g k else f k) r := by
 simpa only [hc, if_true] using h
theorem Ev.no' {α : Type} {c : Prop} [Decidable c] {g f : Nat → Option α} {r : α} (hc : ¬ c) (h : Ev f r) : Ev (fun k => if c then g k else f k) r := by
 simpa only [hc, if_false] using h
/-- Few short words. -/
def Few (n : Nat) (l : List ByteArray) : Prop := l.length ≤ n ∧ ∀ x ∈ l, x.size ≤ 9
theorem Few.mono {m n : Nat} {l : List ByteArray} (h : Few m l) (hmn : m ≤ n) : Few n l := ⟨Nat.le_trans h.1 hmn, h.2⟩
theorem Few.nil (n : Nat) : Few n [] := ⟨Nat.zero_le _, fun _ h => by cases h⟩
theorem Few.snoc {n : Nat} {l : List ByteArray} {x : ByteArray} (h : Few n l) (hx : x.size ≤ 9) : Few (n + 1) (l ++ [x]) := by
 refine ⟨by rw [List.length_append]; have := h.1; simp; omega, fun y hy => ?_⟩
 rcases List.mem_append.1 hy with hy | hy
 ·exact h.2 y hy
 ·rw [List.mem_singleton.1 hy]; exact hx
theorem draw_ver (b : List Int) (i h : Int) (hc : Cur b i) : Got (fun k => spec_l3Draw.f k b i h) fun r => Few 2 r.2.2.2.1 ∧ Cur b r.2.2.2.2.1 := by
 unfold spec_l3Draw.f
 refine Got.bind (draw_below b i h 3 (by omega) (by omega) hc) fun r1 h1 => ?_
 refine Got.bind (draw_below b _ _ 3 (by omega) (by omega) h1.2) fun r2 h2 => ?_
 refine Got.bind (draw_below b _ _ 3 (by omega) (by omega) h2.2) fun r3 h3 => ?_
 refine Got.bind (draw_once b _ _ 3 (by omega) (by omega) h3.2) fun r4 h4 => ?_
 refine Got.cond (fun _ => ?_) (fun _ => Got.some ⟨Few.nil _, h4⟩)
 refine Got.bind (draw_str b _ _ _ (by simp) (by simp) h4) fun r5 h5 => ?_
 have z5 : r5.1.size ≤ 9 := by
  have hm := h5.1
  simp only [List.mem_cons, List.not_mem_nil, or_false] at hm
  rcases hm with e | e | e | e | e | e <;> rw [e] <;> decide
 simp only [List.length_nil, show (0 : Nat) < 8796093022208 by omega, if_true, Option.bind_some, List.nil_append]
 refine Got.bind (draw_once b _ _ 3 (by omega) (by omega) h5.2) fun r6 h6 => ?_
 refine Got.cond (fun _ => ?_) (fun _ => Got.some ⟨(Few.snoc (Few.nil 1) z5 : Few 2 ([] ++ [r5.1])), h6⟩)
 refine Got.bind (draw_str b _ _ _ (by simp) (by simp) h6) fun r7 h7 => ?_
 have z7 : r7.1.size ≤ 9 := by
  have hm := h7.1
  simp only [List.mem_cons, List.not_mem_nil, or_false] at hm
  rcases hm with e | e | e <;> rw [e] <;> decide
 simp only [List.length_cons, List.length_nil, show (0 + 1 : Nat) < 8796093022208 by omega, if_true]
 exact Got.some ⟨Few.snoc (Few.snoc (Few.nil 0) z5) z7, h7.2⟩
theorem draw_any (b : List Int) (i h : Int) (hc : Cur b i) : Got (fun k => spec_l3Any.f k b i h) fun r => Few 4 r.2.2.2.1 ∧ Cur b r.2.2.2.2.1 := by
 unfold spec_l3Any.f
 refine Got.bind (draw_ver b i h hc) fun r hr => ?_
 have hlen := hr.1.1
 refine Got.bind (draw_below b _ _ 8 (by omega) (by omega) hr.2) fun r1 h1 => ?_
 refine Got.cond (fun _ => ?_) (fun _ => ?_)
 ·exact Got.bind (draw_int b _ _ _ (by simp) (by simp) h1.2) fun r2 h2 => Got.some ⟨hr.1.mono (by omega), h2.2⟩
 refine Got.cond (fun _ => ?_) (fun _ => ?_)
 ·exact Got.bind (draw_int b _ _ _ (by simp) (by simp) h1.2) fun r2 h2 => Got.some ⟨hr.1.mono (by omega), h2.2⟩
 refine Got.cond (fun _ => ?_) (fun _ => ?_)
 ·refine Got.bind (draw_str b _ _ _ (by simp) (by simp) h1.2) fun r2 h2 => ?_
  have z2 : r2.1.size ≤ 9 := by
   have hm := h2.1
   simp only [List.mem_cons, List.not_mem_nil, or_false] at hm
   rcases hm with e | e | e | e | e | e <;> rw [e] <;> decide
  simp only [show r.2.2.2.1.length < 8796093022208 by omega, if_true]
  exact Got.some ⟨(hr.1.snoc z2).mono (by omega), h2.2⟩
 refine Got.cond (fun _ => ?_) (fun _ => Got.some ⟨hr.1.mono (by omega), h1.2⟩)
 simp only [Option.bind_some]
 refine Got.bind (draw_int b _ _ _ (by simp) (by simp) h1.2) fun r2 h2 => ?_
 have hm := h2.1
 simp only [List.mem_cons, List.not_mem_nil, or_false] at hm
 have h0 : 0 ≤ r2.1 ∧ r2.1 ≤ 4 := by omega
 simp only [h0.1, if_true, List.length_cons, List.length_nil, show r2.1 ≤ ((0 + 1 + 1 + 1 + 1 : Nat) : Int) by omega]
 refine Got.some ⟨⟨by rw [List.length_take]; exact Nat.min_le_right _ _, fun x hx => ?_⟩, h2.2⟩
 have := List.mem_of_mem_take hx
 simp only [List.mem_cons, List.not_mem_nil, or_false] at this
 rcases this with e | e | e | e <;> rw [e] <;> decide
end Go.Proofs.YtbjgmbhkofgjaaaDoor.Pure
namespace Go.Proofs.YtbjgmbhkofgjaaaDoor.Pure
open Go.RowKit Go.Proofs.YtbjgmbhkofgjaaaDoor.PGB Go.Proofs.YtbjgmbhkofgjaaaDoorW.PrintWords Go.Proofs.YtbjgmbhkofgjaaaDoorW.PrintLast Go.Proofs.YtbjgmbhkofgjaaaDoor.Aux
theorem Few.len {n : Nat} {l : List ByteArray} (h : Few n l) (hn : n ≤ 1000) : l.length ≤ 9223372036854775807 := by have := h.1; omega
theorem Few.short {n : Nat} {l : List ByteArray} (h : Few n l) : ∀ x ∈ l, x.size ≤ 9223372036854775807 := fun x hx => by have := h.2 x hx; omega
end Go.Proofs.YtbjgmbhkofgjaaaDoor.Pure
namespace Go.Proofs.YtbjgmbhkofgjaaaDoor.Pure
open Go.RowKit Go.Proofs.YtbjgmbhkofgjaaaDoor.PGB Go.Proofs.YtbjgmbhkofgjaaaDoorW.PrintWords Go.Proofs.YtbjgmbhkofgjaaaDoorW.PrintLast Go.Proofs.YtbjgmbhkofgjaaaDoor.Aux
theorem joinN_cons (x : ByteArray) (r : List ByteArray) (sep : ByteArray) : joinN (x :: r) sep = sep.size + x.size + joinN r sep := by
 unfold joinN
 simp [dats, Lib.lens, Nat.mul_succ]
 omega
theorem joinN_few : ∀ {n : Nat} {l : List ByteArray}, Few n l → joinN l dot ≤ 10 * n
 | n, [], _ => by simp [joinN, dats, Lib.lens]
 | 0, x :: r, h => by have := h.1; simp at this
 | n + 1, x :: r, h => by
  have ih := joinN_few (n := n) (l := r) ⟨by have := h.1; simp at this; omega, fun y hy => h.2 y (by simp [hy])⟩
  have hx := h.2 x (by simp)
  rw [joinN_cons, show dot.size = 1 from rfl]
  omega
theorem parseV_text {s : ByteArray} (h : (parseV s).2.2.2.2 = true) : verT (parseV s).1 (parseV s).2.1 (parseV s).2.2.1 (parseV s).2.2.2.1 = s := by
 unfold parseV at h ⊢
 split at h
 next h3 =>
  rw [if_pos h3]
  unfold readV at h ⊢
  split at h
  next hc =>
   rw [if_pos hc]
   have := vert_back s h3 hc.1 hc.2.1 hc.2.2.1 true hc.2.2.2
   rw [if_pos rfl] at this
   exact this
  next => cases h
 next => cases h
theorem parseV_pre (s : ByteArray) : (parseV s).2.2.2.1.length ≤ 3 ∧ (∀ x ∈ (parseV s).2.2.2.1, x.size ≤ s.size) ∧ joinN (parseV s).2.2.2.1 dot ≤ s.size + 1 := by
 refine ⟨parseV_length s, ?_⟩
 unfold parseV
 split
 ·unfold readV
  split
  ·exact ⟨preQ_mem s, joinN_preQ s⟩
  ·exact ⟨fun x hx => by simp [noVer] at hx, by simp [noVer, joinN, dats, Lib.lens]⟩
 ·exact ⟨fun x hx => by simp [noVer] at hx, by simp [noVer, joinN, dats, Lib.lens]⟩
end Go.Proofs.YtbjgmbhkofgjaaaDoor.Pure
namespace Go.Proofs.YtbjgmbhkofgjaaaDoor.Pure
open Go.RowKit Go.Proofs.YtbjgmbhkofgjaaaDoor.PGB Go.Proofs.YtbjgmbhkofgjaaaDoorW.PrintWords Go.Proofs.YtbjgmbhkofgjaaaDoorW.PrintLast Go.Proofs.YtbjgmbhkofgjaaaDoor.Aux
theorem at1_app (c : UInt8) : ∀ (u r : List UInt8), c ∉ u → at1 c (u ++ c :: r) = u.length
 | [], r, _ => at1_hit c r
 | b :: u, r, h => by
  have hb : ¬ b = c := fun e => h (by simp [e])
  rw [List.cons_append, at1_miss hb, at1_app c u r (fun e => h (by simp [e])), List.length_cons]
theorem at1_none (c : UInt8) : ∀ u : List UInt8, c ∉ u → at1 c u = u.length
 | [], _ => rfl
 | b :: u, h => by
  have hb : ¬ b = c := fun e => h (by simp [e])
  rw [at1_miss hb, at1_none c u (fun e => h (by simp [e])), List.length_cons]
theorem split_alone (c : UInt8) : ∀ u : List UInt8, c ∉ u → Lib.split u [c] = [u]
 | [], _ => split_nil (by simp)
 | b :: u, h => by
  have hb : ¬ b = c := fun e => h (by simp [e])
  rw [split_one_by _ hb, split_alone c u (fun e => h (by simp [e]))]
  rfl
theorem split_app (c : UInt8) : ∀ (u r : List UInt8), c ∉ u → Lib.split (u ++ c :: r) [c] = u :: Lib.split r [c]
 | [], r, _ => split_one_at c r
 | b :: u, r, h => by
  have hb : ¬ b = c := fun e => h (by simp [e])
  rw [List.cons_append, split_one_by _ hb, split_app c u r (fun e => h (by simp [e]))]
  rfl
theorem split_join (c : UInt8) : ∀ (x : List UInt8) (l : List (List UInt8)), (∀ y ∈ x :: l, c ∉ y) → Lib.split (Lib.join (x :: l) [c]) [c] = x :: l
 | x, [], h => by rw [Lib.join_one]; exact split_alone c x (h x (by simp))
 | x, y :: l, h => by
  rw [join_two, List.append_assoc, show ([c] : List UInt8) ++ Lib.join (y :: l) [c] = c :: Lib.join (y :: l) [c] from rfl, split_app c x _ (h x (by simp)), split_join c y l (fun z hz => h z (by simp at hz ⊢; right; exact hz))]
theorem dec_digits : ∀ (n u : Nat), u ≤ n → ∀ b ∈ Lib.decDigits u, digL b = true
 | 0, u, h, b, hb => by
  rw [Lib.decDigits, dif_pos (by omega)] at hb
  rw [List.mem_singleton.1 hb, digL_iff]
  simp
  omega
 | n + 1, u, h, b, hb => by
  by_cases h9 : u < 10
  ·rw [Lib.decDigits, dif_pos h9] at hb
   rw [List.mem_singleton.1 hb, digL_iff]
   simp
   omega
  ·rw [Lib.decDigits, dif_neg h9] at hb
   rcases List.mem_append.1 hb with hb | hb
   ·exact dec_digits n (u / 10) (by omega) b hb
   ·rw [List.mem_singleton.1 hb, digL_iff]
    simp
    omega
theorem dec_val : ∀ (n u : Nat), u ≤ n → valL (Lib.decDigits u) = u
 | 0, u, h => by
  obtain rfl : u = 0 := by omega
  rw [Lib.decDigits, dif_pos (by omega)]
  rfl
 | n + 1, u, h => by
  by_cases h9 : u < 10
  ·rw [Lib.decDigits, dif_pos h9]
   have := valL_snoc [] (UInt8.ofNat (48 + u))
   rw [List.nil_append] at this
   rw [this, show valL [] = 0 from rfl]
   simp
   omega
  ·rw [Lib.decDigits, dif_neg h9, valL_snoc, dec_val n (u / 10) (by omega)]
   simp
   omega
theorem dec_pos (u : Nat) : 1 ≤ (Lib.decDigits u).length := by
 rw [Lib.decDigits]
 split
 ·simp
 ·simp
theorem not_dig {b : UInt8} (h : digL b = true) : b ≠ 45 ∧ b ≠ 46 := by
 have := (digL_iff b).1 h
 exact ⟨fun e => by rw [e] at this; exact absurd this (by decide), fun e => by rw [e] at this; exact absurd this (by decide)⟩
theorem parse_num {x : Int} (h0 : 0 ≤ x) (h1 : x ≤ 9999) : parseM (numB x) 9999 = (x, true) := by
 have hl := decDigits_length 3 x.toNat (by omega)
 have hp := dec_pos x.toNat
 have hv := dec_val x.toNat x.toNat (Nat.le_refl _)
 have hd : (Lib.decDigits x.toNat).all digL = true := List.all_eq_true.2 (dec_digits x.toNat x.toNat (Nat.le_refl _))
 have hn : noLead (Lib.decDigits x.toNat) = true := noLead_of_dec (by rw [hv])
 have hvb : valB (numB x) = x := by
  unfold valB numB
  rw [data_ofL, hv]
  omega
 have hok : parseOk (numB x) = true := by
  unfold parseOk numB
  rw [data_ofL, ofL_size, hd, hn]
  unfold inB
  simp
  omega
 unfold parseM
 rw [hok, hvb, if_pos ⟨rfl, h1⟩]
theorem core_data (a b c : Int) : (verCore a b c).data.toList = Lib.decDigits a.toNat ++ 46 :: (Lib.decDigits b.toNat ++ 46 :: Lib.decDigits c.toNat) := by
 unfold verCore numB dot
 simp [ofL]
theorem core_no (a b c : Int) : (45 : UInt8) ∉ (verCore a b c).data.toList := by
 rw [core_data]
 intro h
 have hd := fun u => dec_digits u u (Nat.le_refl _) 45
 simp only [List.mem_append, List.mem_cons] at h
 rcases h with h | h | h | h | h
 ·exact (not_dig (hd _ h)).1 rfl
 ·cases h
 ·exact (not_dig (hd _ h)).1 rfl
 ·cases h
 ·exact (not_dig (hd _ h)).1 rfl
theorem core_pieces (a b c : Int) : piecesB (verCore a b c) dot = [numB a, numB b, numB c] := by
 have hd := fun u (h : (46 : UInt8) ∈ Lib.decDigits u) => (not_dig (dec_digits u u (Nat.le_refl _) 46 h)).2 rfl
 unfold piecesB
 rw [core_data, show dot.data.toList = [46] from rfl, split_app 46 _ _ (hd _), split_app 46 _ _ (hd _), split_alone 46 _ (hd _)]
 rfl
theorem pre_no {x : ByteArray} (h : preB x = true) : (46 : UInt8) ∉ x.data.toList := by
 intro hm
 unfold preB at h
 simp only [Bool.and_eq_true, List.all_eq_true] at h
 have := h.1 46 (by unfold bs; exact List.mem_map.2 ⟨46, hm, rfl⟩)
 exact absurd this (by decide)
theorem verT_back {a b c : Int} {l : List ByteArray} (h : verB a b c l = true) : parseV (verT a b c l) = (a, b, c, l, true) := by
 obtain ⟨a0, a1, b0, b1, c0, c1, l3⟩ := ver_parts h
 have hpre : ∀ x ∈ l, preB x = true := by
  have h' := h
  unfold verB at h'
  simp only [Bool.and_eq_true, List.all_eq_true] at h'
  exact h'.1
 have hhead : headB 45 (verT a b c l) = verCore a b c ∧ preQ (verT a b c l) = l := by
  unfold verT
  rw [if_pos h]
  cases l with
  | nil =>
   have hno := at1_none 45 _ (core_no a b c)
   rw [if_neg (by simp)]
   refine ⟨?_, ?_⟩
   ·unfold headB
    rw [hno, List.take_length, ofL_data]
   ·unfold preQ hasB
    rw [hno]
    simp
  | cons x r =>
   rw [if_pos (by rw [List.length_cons]; omega)]
   have hdat : (verCore a b c ++ (dash ++ joinB (x :: r) dot)).data.toList = (verCore a b c).data.toList ++ 45 :: (joinB (x :: r) dot).data.toList := by
    unfold dash
    simp
   have hat : at1 45 (verCore a b c ++ (dash ++ joinB (x :: r) dot)).data.toList = (verCore a b c).data.toList.length := by
    rw [hdat, at1_app 45 _ _ (core_no a b c)]
   refine ⟨?_, ?_⟩
   ·unfold headB
    rw [hat, hdat, List.take_left', ofL_data]
    rfl
   ·have hh : hasB 45 (verCore a b c ++ (dash ++ joinB (x :: r) dot)) = true := by
     unfold hasB
     rw [hat, hdat, decide_eq_true_eq, List.length_append, List.length_cons]
     omega
    unfold preQ
    rw [if_pos hh]
    have ht : tailB 45 (verCore a b c ++ (dash ++ joinB (x :: r) dot)) = joinB (x :: r) dot := by
     unfold tailB
     rw [hat, hdat, List.drop_append, List.drop_eq_nil_of_le (by omega), List.nil_append, show (verCore a b c).data.toList.length + 1 - (verCore a b c).data.toList.length = 1 by omega, List.drop_one, List.tail_cons, ofL_data]
    rw [ht]
    unfold piecesB joinB
    rw [data_ofL, show dot.data.toList = [46] from rfl, show dats (x :: r) = x.data.toList :: dats r from rfl, split_join 46 x.data.toList (dats r) (fun y hy => by
     rw [show x.data.toList :: dats r = dats (x :: r) from rfl] at hy
     unfold dats at hy
     obtain ⟨z, hz, rfl⟩ := List.mem_map.1 hy
     exact pre_no (hpre z hz))]
    rw [List.map_cons, ofL_data]
    unfold dats
    rw [List.map_map]
    congr 1
    conv => rhs; rw [← List.map_id r]
    exact List.map_congr_left (fun z _ => ofL_data z)
 unfold parseV numQ
 rw [hhead.1, hhead.2, core_pieces]
 show readV (numB a) (numB b) (numB c) l = _
 unfold readV
 rw [parse_num a0 a1, parse_num b0 b1, parse_num c0 c1]
 simp only [h, and_self, if_true]
end Go.Proofs.YtbjgmbhkofgjaaaDoor.Pure
namespace Go.Proofs.YtbjgmbhkofgjaaaDoor.Pure
open Go.RowKit Go.Proofs.YtbjgmbhkofgjaaaDoor.PGB Go.Proofs.YtbjgmbhkofgjaaaDoorW.PrintWords Go.Proofs.YtbjgmbhkofgjaaaDoorW.PrintLast Go.Proofs.YtbjgmbhkofgjaaaDoor.Aux
def ltB (a b : ByteArray) : Bool := Op.bytesLess a.toList b.toList
theorem ltB_turned (a b : ByteArray) : ltB b a = !(ltB a b || decide (a = b)) := by
 unfold ltB
 rw [Mine.less_turned]
 congr 2
 by_cases h : a = b
 ·subst h; simp
 ·have : ¬ a.toList = b.toList := fun e => h (toList_inj.1 e)
  simp [h, this]
theorem ltB_self (a : ByteArray) : ltB a a = false := by
 have h := ltB_turned a a
 cases hq : ltB a a with
 | false => rfl
 | true => rw [hq] at h; simp at h
def cmpI (a b : Int) : Int := if a < b then -1 else if a > b then 1 else 0
def cmpS (a b : ByteArray) : Int := if ltB a b = true then -1 else if ltB b a = true then 1 else 0
theorem cmpS_zero (a b : ByteArray) : cmpS a b = 0 ↔ a = b := by
 unfold cmpS
 rw [ltB_turned a b]
 constructor
 ·intro h
  cases hq : ltB a b with
  | true => rw [hq] at h; simp at h
  | false =>
   rw [hq] at h
   by_cases e : a = b
   ·exact e
   ·simp [e] at h
 ·rintro rfl
  simp [ltB_self]
theorem cmpS_neg (a b : ByteArray) : decide (cmpS a b < 0) = ltB a b := by
 unfold cmpS
 cases ltB a b with
 | true => simp
 | false => cases ltB b a <;> simp
theorem cmpInt (a b : Int) : Ev (fun k => cmp_Compare_int.f k a b) (cmpI a b) := by
 unfold cmp_Compare_int.f
 simp only [cmp_isNaN_int.f, Option.bind_some, bne_self_eq_false, Bool.false_eq_true, if_false]
 refine Ev.succ ?_
 simp only [cmp_Compare_int.j0, Bool.false_eq_true, if_false]
 refine Ev.succ ?_
 simp only [cmp_Compare_int.j1]
 unfold cmpI
 by_cases h : a < b
 ·simp only [h, if_true]
  exact Ev.some
 ·by_cases h' : a > b
  ·simp only [h, h', if_true, if_false]
   exact Ev.some
  ·simp only [h, h', if_false]
   exact Ev.some
theorem cmpStr (a b : ByteArray) : Ev (fun k => cmp_Compare_string.f k a b) (cmpS a b) := by
 unfold cmp_Compare_string.f
 simp only [cmp_isNaN_string.f, Option.bind_some, bne_self_eq_false, Bool.false_eq_true, if_false]
 refine Ev.succ ?_
 simp only [cmp_Compare_string.j0, Bool.false_eq_true, if_false]
 refine Ev.succ ?_
 simp only [cmp_Compare_string.j1]
 unfold cmpS ltB
 cases h : Op.bytesLess a.toList b.toList with
 | true =>
  simp only [if_true]
  exact Ev.some
 | false =>
  cases h' : Op.bytesLess b.toList a.toList with
  | true =>
   simp only [Bool.false_eq_true, if_true, if_false]
   exact Ev.some
  | false =>
   simp only [Bool.false_eq_true, if_false]
   exact Ev.some
def orI : List Int → Int
 | [] => 0
 | x :: r => if x = 0 then orI r else x
theorem cmpOr_l (l : List Int) (hl : l.length ≤ 9223372036854775807) (d : Nat) : ∀ i : Nat, i + d = l.length → Ev (fun k => cmp_Or_int.l0 k 0 l (l.length : Int) (i : Int)) (orI (l.drop i)) := by
 induction d with
 | zero =>
  intro i hi
  have h1 : ¬ (i : Int) < (l.length : Int) := by omega
  refine Ev.succ ?_
  simp only [cmp_Or_int.l0, h1, if_false, List.drop_eq_nil_of_le (show l.length ≤ i by omega), orI]
  exact Ev.some
 | succ d ih =>
  intro i hi
  have hlt : i < l.length := by omega
  have h1 : (i : Int) < (l.length : Int) := by omega
  have h2 : (0 : Int) ≤ (i : Int) := by omega
  have h3 := next_i hlt hl
  refine Ev.succ ?_
  rw [drop_get hlt]
  simp only [cmp_Or_int.l0, h1, h2, h3, if_true, rd_cast hlt, orI]
  by_cases h : l[i] = 0
  ·simp only [h, if_true]
   exact ih (i + 1) (by omega)
  ·simp only [h, if_false]
   exact Ev.some
theorem cmpOr (l : List Int) (hl : l.length ≤ 9223372036854775807) : Ev (fun k => cmp_Or_int.f k l) (orI l) := cmpOr_l l hl l.length 0 (by omega)
def cmpW (a b : ByteArray) : Int :=
 if digitsB a = true then if digitsB b = true then orI [cmpI (a.size : Int) (b.size : Int), cmpS a b] else -1
 else if digitsB b = true then 1 else cmpS a b
theorem nil_size (s : ByteArray) : s.toList = ([] : List UInt8) ↔ s.size = 0 := by
 rw [toList_data]
 constructor
 ·intro h
  have := congrArg List.length h
  simpa using this
 ·intro h
  apply List.eq_nil_of_length_eq_zero
  simpa using h
theorem digits_nil (s : ByteArray) (h : s.size = 0) : digitsB s = true := by
 unfold digitsB bs
 have : s.data.toList = [] := by
  apply List.eq_nil_of_length_eq_zero
  simpa using h
 rw [this]
 rfl
theorem words_j (a b : ByteArray) : Ev (fun k => impl_compareWords.j0 k a b (digitsB a) (digitsB b)) (cmpW a b) := by
 refine Ev.succ ?_
 unfold cmpW
 cases ha : digitsB a with
 | true =>
  simp only [impl_compareWords.j0, if_true]
  refine Ev.succ ?_
  cases hb : digitsB b with
  | true =>
   simp only [impl_compareWords.j1, if_true]
   exact Ev.bind (cmpInt _ _) (Ev.bind (cmpStr _ _) (Ev.bind (cmpOr _ (by simp)) Ev.some))
  | false =>
   simp only [impl_compareWords.j1, if_true, Bool.false_eq_true, if_false]
   exact Ev.some
 | false =>
  simp only [impl_compareWords.j0, Bool.false_eq_true, if_false]
  refine Ev.succ ?_
  cases hb : digitsB b with
  | true =>
   simp only [impl_compareWords.j1, if_true, Bool.false_eq_true, if_false]
   exact Ev.some
  | false =>
   simp only [impl_compareWords.j1, Bool.false_eq_true, if_false]
   exact Ev.bind (cmpStr _ _) Ev.some
theorem words (a b : ByteArray) (ha : a.size ≤ 9223372036854775807) (hb : b.size ≤ 9223372036854775807) : Ev (fun k => impl_compareWords.f k a b) (cmpW a b) := by
 unfold impl_compareWords.f
 have fa := impl_figures a ha
 have fb := impl_figures b hb
 have hj := words_j a b
 simp only [nil_size]
 by_cases ea : a.size = 0
 ·simp only [ea, if_true]
  rw [digits_nil a ea] at hj
  by_cases eb : b.size = 0
  ·simp only [eb, if_true]
   rw [digits_nil b eb] at hj
   exact hj
  ·simp only [eb, if_false]
   refine Ev.bind fb ?_
   simpa [eb] using hj
 ·simp only [ea, if_false]
  refine Ev.bind fa ?_
  by_cases eb : b.size = 0
  ·simp only [eb, if_true]
   rw [digits_nil b eb] at hj
   simpa [ea] using hj
  ·simp only [eb, if_false]
   refine Ev.bind fb ?_
   simpa [ea, eb] using hj
def cmpWs : List ByteArray → List ByteArray → Int
 | [], [] => 0
 | [], _ :: _ => -1
 | _ :: _, [] => 1
 | x :: a, y :: b => if cmpW x y = 0 then cmpWs a b else cmpW x y
theorem compareFunc_l (a b : List ByteArray) (hl : a.length ≤ 9223372036854775807) (hs : ∀ x ∈ a, x.size ≤ 9223372036854775807) (hs' : ∀ x ∈ b, x.size ≤ 9223372036854775807) (d : Nat) : ∀ i : Nat, i + d = a.length → i ≤ b.length →
  Ev (fun k => slices_CompareFunc_string_string_string_string.l0 k a b a (a.length : Int) (i : Int)) (cmpWs (a.drop i) (b.drop i)) := by
 induction d with
 | zero =>
  intro i hi hb
  have h1 : ¬ (i : Int) < (a.length : Int) := by omega
  refine Ev.succ ?_
  simp only [slices_CompareFunc_string_string_string_string.l0, h1, if_false, List.drop_eq_nil_of_le (show a.length ≤ i by omega)]
  by_cases h : a.length < b.length
  ·rw [drop_get (show i < b.length by omega)]
   simp only [show (a.length : Int) < (b.length : Int) by omega, if_true, cmpWs]
   exact Ev.some
  ·rw [List.drop_eq_nil_of_le (show b.length ≤ i by omega)]
   simp only [show ¬ (a.length : Int) < (b.length : Int) by omega, if_false, cmpWs]
   exact Ev.some
 | succ d ih =>
  intro i hi hb
  have hlt : i < a.length := by omega
  have h1 : (i : Int) < (a.length : Int) := by omega
  have h2 : (0 : Int) ≤ (i : Int) := by omega
  have h3 := next_i hlt hl
  refine Ev.succ ?_
  simp only [slices_CompareFunc_string_string_string_string.l0, h1, if_true]
  refine Ev.succ ?_
  rw [drop_get hlt]
  by_cases h : i < b.length
  ·rw [drop_get h]
   simp only [slices_CompareFunc_string_string_string_string.j1, h1, h2, h3, if_true, show ¬ (i : Int) ≥ (b.length : Int) by omega, if_false, show (i : Int) < (b.length : Int) by omega, rdOf_cast _ hlt, rdOf_cast _ h, cmpWs]
   refine Ev.bind (words _ _ (hs _ (List.getElem_mem hlt)) (hs' _ (List.getElem_mem h))) ?_
   by_cases hc : cmpW a[i] b[i] = 0
   ·simp only [hc, if_true]
    exact ih (i + 1) (by omega) (by omega)
   ·simp only [hc, if_false]
    exact Ev.some
  ·rw [List.drop_eq_nil_of_le (show b.length ≤ i by omega)]
   simp only [slices_CompareFunc_string_string_string_string.j1, h1, h2, if_true, show (i : Int) ≥ (b.length : Int) by omega, cmpWs]
   exact Ev.some
theorem compareFunc (a b : List ByteArray) (hl : a.length ≤ 9223372036854775807) (hs : ∀ x ∈ a, x.size ≤ 9223372036854775807) (hs' : ∀ x ∈ b, x.size ≤ 9223372036854775807) :
  Ev (fun k => slices_CompareFunc_string_string_string_string.f k a b) (cmpWs a b) := compareFunc_l a b hl hs hs' a.length 0 (by omega) (by omega)
def cmpP (a b : List ByteArray) : Int :=
 if ((a.length : Int) == 0) != ((b.length : Int) == 0) then if (a.length : Int) > 0 then -1 else 1 else cmpWs a b
def cmpV (a b c : Int) (l : List ByteArray) (a' b' c' : Int) (l' : List ByteArray) : Int :=
 if orI [cmpI a a', cmpI b b', cmpI c c'] = 0 then cmpP l l' else orI [cmpI a a', cmpI b b', cmpI c c']
theorem compareVer (a b c : Int) (l : List ByteArray) (a' b' c' : Int) (l' : List ByteArray) (hl : l.length ≤ 9223372036854775807) (hs : ∀ x ∈ l, x.size ≤ 9223372036854775807) (hs' : ∀ x ∈ l', x.size ≤ 9223372036854775807) :
  Ev (fun k => impl_compareVer.f k a b c l a' b' c' l') (cmpV a b c l a' b' c' l') := by
 unfold impl_compareVer.f cmpV
 refine Ev.bind (cmpInt _ _) (Ev.bind (cmpInt _ _) (Ev.bind (cmpInt _ _) (Ev.bind (cmpOr _ (by simp)) ?_)))
 by_cases h : orI [cmpI a a', cmpI b b', cmpI c c'] = 0
 ·simp only [h, if_true]
  refine Ev.succ ?_
  simp only [impl_compareVer.j0]
  unfold cmpP
  cases hq : (((l.length : Int) == 0) != ((l'.length : Int) == 0)) with
  | true =>
   simp only [if_true]
   by_cases h0 : (l.length : Int) > 0
   ·simp only [h0, if_true]
    exact Ev.some
   ·simp only [h0, if_false]
    exact Ev.some
  | false =>
   simp only [Bool.false_eq_true, if_false]
   exact Ev.bind (compareFunc _ _ hl hs hs') Ev.some
 ·simp only [h, if_false]
  exact Ev.some
/-! The reference's. -/
def lessW (a b : ByteArray) : Bool :=
 if digitsB a = true ∧ digitsB b = true then if a.size = b.size then ltB a b else decide (a.size < b.size)
 else if (digitsB a != digitsB b) = true then digitsB a else ltB a b
def lessWs : List ByteArray → List ByteArray → Bool
 | [], [] => false
 | [], _ :: _ => true
 | _ :: _, [] => false
 | x :: a, y :: b => if x = y then lessWs a b else lessW x y
def lessP (a b : List ByteArray) : Bool :=
 if (a.length = 0 ∨ b.length = 0) then decide (a.length > 0 ∧ b.length = 0) else lessWs a b
def lessV (a b c : Int) (l : List ByteArray) (a' b' c' : Int) (l' : List ByteArray) : Bool :=
 if a = a' then if b = b' then if c = c' then lessP l l' else decide (c < c') else decide (b < b') else decide (a < a')
/-! Both are one. -/
theorem cmpW_zero (a b : ByteArray) : cmpW a b = 0 ↔ a = b := by
 unfold cmpW
 constructor
 ·intro h
  cases ha : digitsB a <;> cases hb : digitsB b <;> simp only [ha, hb, if_true, Bool.false_eq_true, if_false] at h
  ·exact (cmpS_zero a b).1 h
  ·omega
  ·omega
  ·simp only [orI] at h
   by_cases hc : cmpI (a.size : Int) (b.size : Int) = 0
   ·by_cases hs : cmpS a b = 0
    ·exact (cmpS_zero a b).1 hs
    ·simp [hc, hs] at h
   ·simp [hc] at h
 ·rintro rfl
  have h0 : cmpS a a = 0 := (cmpS_zero a a).2 rfl
  cases ha : digitsB a <;> simp [h0, orI, cmpI]
theorem cmpW_neg (a b : ByteArray) : decide (cmpW a b < 0) = lessW a b := by
 unfold cmpW lessW
 cases ha : digitsB a <;> cases hb : digitsB b <;> simp only [if_true, Bool.false_eq_true, if_false, and_self, and_false, false_and]
 ·simpa using cmpS_neg a b
 ·simp
 ·simp
 ·simp only [orI]
  by_cases hs : a.size = b.size
  ·simp only [hs, if_true]
   have : cmpI (b.size : Int) (b.size : Int) = 0 := by simp [cmpI]
   simp only [this, if_true]
   by_cases h0 : cmpS a b = 0
   ·simp only [h0, if_true]
    rw [(cmpS_zero a b).1 h0, ltB_self]
    rfl
   ·simp only [h0, if_false]
    exact cmpS_neg a b
  ·simp only [hs, if_false]
   unfold cmpI
   by_cases hlt : a.size < b.size
   ·simp [hlt]
   ·have : (b.size : Int) < (a.size : Int) := by omega
    have h2 : ¬ (a.size : Int) < (b.size : Int) := by omega
    simp [hlt, this]
theorem cmpWs_neg : ∀ (a b : List ByteArray), decide (cmpWs a b < 0) = lessWs a b
 | [], [] => by simp [cmpWs, lessWs]
 | [], _ :: _ => by simp [cmpWs, lessWs]
 | _ :: _, [] => by simp [cmpWs, lessWs]
 | x :: a, y :: b => by
  simp only [cmpWs, lessWs]
  by_cases h : x = y
  ·subst h
   simp only [(cmpW_zero x x).2 rfl, if_true]
   exact cmpWs_neg a b
  ·simp only [show ¬ cmpW x y = 0 from fun e => h ((cmpW_zero x y).1 e), h, if_false]
   exact cmpW_neg x y
theorem cmpP_neg (a b : List ByteArray) : decide (cmpP a b < 0) = lessP a b := by
 unfold cmpP lessP
 cases a with
 | nil =>
  cases b with
  | nil => simp [cmpWs]
  | cons y b => simp; omega
 | cons x a =>
  cases b with
  | nil => simp; omega
  | cons y b =>
   have e1 : (((x :: a).length : Int) == 0) = false := by rw [beq_eq_false_iff_ne, List.length_cons]; omega
   have e2 : (((y :: b).length : Int) == 0) = false := by rw [beq_eq_false_iff_ne, List.length_cons]; omega
   rw [e1, e2]
   simpa using cmpWs_neg (x :: a) (y :: b)
theorem cmpI_zero (a b : Int) : cmpI a b = 0 ↔ a = b := by unfold cmpI; split <;> (try split) <;> omega
theorem cmpI_neg (a b : Int) : cmpI a b < 0 ↔ a < b := by unfold cmpI; split <;> (try split) <;> omega
theorem cmpV_neg (a b c : Int) (l : List ByteArray) (a' b' c' : Int) (l' : List ByteArray) : decide (cmpV a b c l a' b' c' l' < 0) = lessV a b c l a' b' c' l' := by
 unfold cmpV lessV
 simp only [orI]
 by_cases h1 : a = a'
 ·subst h1
  have ea := (cmpI_zero a a).2 rfl
  by_cases h2 : b = b'
  ·subst h2
   have eb := (cmpI_zero b b).2 rfl
   by_cases h3 : c = c'
   ·subst h3
    have ec := (cmpI_zero c c).2 rfl
    simp only [ea, eb, ec, if_true]
    exact cmpP_neg l l'
   ·simp only [ea, eb, show ¬ cmpI c c' = 0 from fun e => h3 ((cmpI_zero c c').1 e), if_true, if_false, h3, cmpI_neg]
  ·simp only [ea, show ¬ cmpI b b' = 0 from fun e => h2 ((cmpI_zero b b').1 e), if_true, if_false, h2, cmpI_neg]
 ·simp only [show ¬ cmpI a a' = 0 from fun e => h1 ((cmpI_zero a a').1 e), if_false, h1, cmpI_neg]
end Go.Proofs.YtbjgmbhkofgjaaaDoor.Pure
namespace Go.Proofs.YtbjgmbhkofgjaaaDoor.Pure
open Go.RowKit Go.Proofs.YtbjgmbhkofgjaaaDoor.PGB Go.Proofs.YtbjgmbhkofgjaaaDoorW.PrintWords Go.Proofs.YtbjgmbhkofgjaaaDoorW.PrintLast Go.Proofs.YtbjgmbhkofgjaaaDoor.Aux
theorem impl_lessV (a b c : Int) (l : List ByteArray) (a' b' c' : Int) (l' : List ByteArray) (hl : l.length ≤ 9223372036854775807) (hs : ∀ x ∈ l, x.size ≤ 9223372036854775807) (hs' : ∀ x ∈ l', x.size ≤ 9223372036854775807) :
  Ev (fun k => impl_LessVer.f k a b c l a' b' c' l') (lessV a b c l a' b' c' l') := by
 unfold impl_LessVer.f
 refine Ev.bind (compareVer _ _ _ _ _ _ _ _ hl hs hs') ?_
 rw [cmpV_neg]
 exact Ev.some
end Go.Proofs.YtbjgmbhkofgjaaaDoor.Pure
namespace Go.Proofs.YtbjgmbhkofgjaaaDoor.Pure
open Go.RowKit Go.Proofs.YtbjgmbhkofgjaaaDoor.PGB Go.Proofs.YtbjgmbhkofgjaaaDoorW.PrintWords Go.Proofs.YtbjgmbhkofgjaaaDoorW.PrintLast Go.Proofs.YtbjgmbhkofgjaaaDoor.Aux
theorem slicesEqual_l (a b : List ByteArray) (hl : a.length ≤ 9223372036854775807) (hab : a.length = b.length) (d : Nat) : ∀ i : Nat, i + d = a.length →
  Ev (fun k => slices_Equal_string_string.l0 k a b (a.length : Int) (i : Int)) (decide (a.drop i = b.drop i)) := by
 induction d with
 | zero =>
  intro i hi
  have h1 : ¬ (i : Int) < (a.length : Int) := by omega
  refine Ev.succ ?_
  rw [List.drop_eq_nil_of_le (by omega), List.drop_eq_nil_of_le (by omega)]
  simp only [slices_Equal_string_string.l0, h1, if_false, decide_true]
  exact Ev.some
 | succ d ih =>
  intro i hi
  have hlt : i < a.length := by omega
  have hlb : i < b.length := by omega
  have h1 : (i : Int) < (a.length : Int) := by omega
  have h1b : (i : Int) < (b.length : Int) := by omega
  have h2 : (0 : Int) ≤ (i : Int) := by omega
  have h3 := next_i hlt hl
  refine Ev.succ ?_
  rw [drop_get hlt, drop_get hlb]
  simp only [slices_Equal_string_string.l0, h1, h1b, h2, h3, if_true, rdOf_cast _ hlt, rdOf_cast _ hlb, toList_inj]
  by_cases h : a[i] = b[i]
  ·simp only [h, if_true, List.cons.injEq, true_and]
   exact ih (i + 1) (by omega)
  ·simp only [h, if_false, List.cons.injEq, false_and, decide_false]
   exact Ev.some
theorem slicesEqual (a b : List ByteArray) (hl : a.length ≤ 9223372036854775807) : Ev (fun k => slices_Equal_string_string.f k a b) (decide (a = b)) := by
 unfold slices_Equal_string_string.f
 by_cases h : (a.length : Int) = (b.length : Int)
 ·simp only [h, if_true]
  refine Ev.succ ?_
  simp only [slices_Equal_string_string.j0, ← h]
  exact slicesEqual_l a b hl (by omega) a.length 0 (by omega)
 ·simp only [h, if_false]
  have : ¬ a = b := fun e => h (by rw [e])
  simp only [this, decide_false]
  exact Ev.some
def sameV (a b c : Int) (l : List ByteArray) (a' b' c' : Int) (l' : List ByteArray) : Bool := decide (a = a') && (decide (b = b') && (decide (c = c') && decide (l = l')))
theorem impl_same (a b c : Int) (l : List ByteArray) (a' b' c' : Int) (l' : List ByteArray) (hl : l.length ≤ 9223372036854775807) :
  Ev (fun k => impl_SameVer.f k a b c l a' b' c' l') (sameV a b c l a' b' c' l') := by
 unfold impl_SameVer.f sameV
 have hs := slicesEqual l l' hl
 by_cases h1 : a = a' <;> by_cases h2 : b = b' <;> by_cases h3 : c = c' <;> simp only [h1, h2, h3, if_true, if_false, decide_true, decide_false, Bool.true_and, Bool.false_and]
 all_goals first | exact Ev.some | exact Ev.bind hs Ev.some
end Go.Proofs.YtbjgmbhkofgjaaaDoor.Pure
namespace Go.Proofs.YtbjgmbhkofgjaaaDoor.Pure
open Go.RowKit Go.Proofs.YtbjgmbhkofgjaaaDoor.PGB Go.Proofs.YtbjgmbhkofgjaaaDoorW.PrintWords Go.Proofs.YtbjgmbhkofgjaaaDoorW.PrintLast Go.Proofs.YtbjgmbhkofgjaaaDoor.Aux
theorem bl_trans : ∀ x y z : List UInt8, Op.bytesLess x y = true → Op.bytesLess y z = true → Op.bytesLess x z = true
 | x, [], z, h, _ => by cases x <;> cases h
 | x, y :: ys, [], _, h => by cases h
 | [], y :: ys, z :: zs, _, _ => rfl
 | x :: xs, y :: ys, z :: zs, h, h' => by
  simp only [Op.bytesLess, Bool.or_eq_true, decide_eq_true_eq, Bool.and_eq_true, beq_iff_eq] at h h' ⊢
  rcases h with h | ⟨rfl, h⟩
  ·rcases h' with h' | ⟨rfl, h'⟩
   ·exact .inl (UInt8.lt_trans h h')
   ·exact .inl h
  ·rcases h' with h' | ⟨rfl, h'⟩
   ·exact .inl h'
   ·exact .inr ⟨rfl, bl_trans xs ys zs h h'⟩
theorem ltB_trans {a b c : ByteArray} (h : ltB a b = true) (h' : ltB b c = true) : ltB a c = true := bl_trans _ _ _ h h'
theorem ltB_other {a b : ByteArray} (h : ¬ a = b) : ltB b a = !ltB a b := by rw [ltB_turned a b]; simp [h]
theorem lessW_self (a : ByteArray) : lessW a a = false := by
 unfold lessW
 simp [ltB_self]
theorem lessW_other {a b : ByteArray} (h : ¬ a = b) : lessW b a = !lessW a b := by
 unfold lessW
 rw [ltB_other h]
 cases digitsB a <;> cases digitsB b <;> simp
 by_cases e : a.size = b.size
 ·simp [e]
 ·rw [if_neg e, if_neg (fun x => e x.symm)]
  rw [Bool.eq_iff_iff]
  simp only [decide_eq_true_eq, Bool.not_eq_true', decide_eq_false_iff_not]
  omega
theorem lessW_trans {a b c : ByteArray} (h : lessW a b = true) (h' : lessW b c = true) : lessW a c = true := by
 unfold lessW at h h' ⊢
 cases ha : digitsB a <;> cases hb : digitsB b <;> cases hc : digitsB c <;> simp only [ha, hb, hc, and_self, and_true, true_and, and_false, false_and, Bool.false_eq_true, if_true, if_false, bne_self_eq_false, Bool.bne_true, Bool.bne_false, Bool.not_true, Bool.not_false] at h h' ⊢
 ·exact ltB_trans h h'
 ·by_cases e1 : a.size = b.size <;> by_cases e2 : b.size = c.size
  ·rw [if_pos e1] at h
   rw [if_pos e2] at h'
   rw [if_pos (by omega)]
   exact ltB_trans h h'
  ·rw [if_neg e2] at h'
   have := of_decide_eq_true h'
   rw [if_neg (by omega)]
   exact decide_eq_true (by omega)
  ·rw [if_neg e1] at h
   have := of_decide_eq_true h
   rw [if_neg (by omega)]
   exact decide_eq_true (by omega)
  ·rw [if_neg e1] at h
   rw [if_neg e2] at h'
   have := of_decide_eq_true h
   have := of_decide_eq_true h'
   rw [if_neg (by omega)]
   exact decide_eq_true (by omega)
theorem lessWs_self : ∀ a : List ByteArray, lessWs a a = false
 | [] => rfl
 | x :: a => by simp [lessWs, lessWs_self a]
theorem lessWs_other : ∀ a b : List ByteArray, ¬ a = b → lessWs b a = !lessWs a b
 | [], [], h => absurd rfl h
 | [], _ :: _, _ => rfl
 | _ :: _, [], _ => rfl
 | x :: a, y :: b, h => by
  simp only [lessWs]
  by_cases e : x = y
  ·subst e
   simp only [if_true]
   exact lessWs_other a b (fun e => h (by rw [e]))
  ·rw [if_neg e, if_neg (fun q => e q.symm)]
   exact lessW_other e
theorem lessWs_trans : ∀ a b c : List ByteArray, lessWs a b = true → lessWs b c = true → lessWs a c = true
 | [], [], _, h, _ => by cases h
 | _ :: _, [], _, h, _ => by cases h
 | _, _ :: _, [], _, h => by cases h
 | [], _ :: _, _ :: _, _, _ => rfl
 | x :: a, y :: b, z :: c, h, h' => by
  simp only [lessWs] at h h' ⊢
  by_cases e1 : x = y
  ·subst e1
   rw [if_pos rfl] at h
   by_cases e2 : x = z
   ·subst e2
    rw [if_pos rfl] at h' ⊢
    exact lessWs_trans a b c h h'
   ·rw [if_neg e2] at h' ⊢
    exact h'
  ·rw [if_neg e1] at h
   by_cases e2 : y = z
   ·subst e2
    rw [if_neg e1]
    exact h
   ·rw [if_neg e2] at h'
    have ht := lessW_trans h h'
    rw [if_neg (fun e => by
     subst e
     rw [lessW_self] at ht
     cases ht)]
    exact ht
theorem lessP_self (a : List ByteArray) : lessP a a = false := by
 unfold lessP
 split
 next h => simp; intro h1 h2; rw [h2] at h1; exact absurd h1 (by simp)
 next => exact lessWs_self a
theorem lessP_other {a b : List ByteArray} (h : ¬ a = b) : lessP b a = !lessP a b := by
 unfold lessP
 cases a with
 | nil =>
  cases b with
  | nil => exact absurd rfl h
  | cons y b => simp
 | cons x a =>
  cases b with
  | nil => simp
  | cons y b =>
   simp only [List.length_cons]
   rw [if_neg (by omega), if_neg (by omega)]
   exact lessWs_other _ _ h
theorem lessP_trans {a b c : List ByteArray} (h : lessP a b = true) (h' : lessP b c = true) : lessP a c = true := by
 unfold lessP at h h' ⊢
 cases a with
 | nil => simp at h
 | cons x a =>
  cases c with
  | nil => simp
  | cons z c =>
   cases b with
   | nil => simp at h'
   | cons y b =>
    simp only [List.length_cons] at h h' ⊢
    rw [if_neg (by omega)] at h h' ⊢
    exact lessWs_trans _ _ _ h h'
theorem ways_one (a b c : Int) (l : List ByteArray) (a' b' c' : Int) (l' : List ByteArray) :
  (lessV a b c l a' b' c' l' = true ∧ lessV a' b' c' l' a b c l = false ∧ sameV a b c l a' b' c' l' = false) ∨ (lessV a b c l a' b' c' l' = false ∧ lessV a' b' c' l' a b c l = true ∧ sameV a b c l a' b' c' l' = false) ∨
  (lessV a b c l a' b' c' l' = false ∧ lessV a' b' c' l' a b c l = false ∧ sameV a b c l a' b' c' l' = true) := by
 unfold lessV sameV
 by_cases h1 : a = a'
 ·subst h1
  by_cases h2 : b = b'
  ·subst h2
   by_cases h3 : c = c'
   ·subst h3
    by_cases h4 : l = l'
    ·subst h4
     simp [lessP_self]
    ·have := lessP_other h4
     cases hq : lessP l l' <;> simp [hq, h4] at this ⊢ <;> simp [this]
   ·rcases Int.lt_or_gt_of_ne h3 with hlt | hlt
    ·simp [h3, show ¬ c' = c from fun e => h3 (Eq.symm e), hlt, show ¬ c' < c by omega]
    ·simp [h3, show ¬ c' = c from fun e => h3 (Eq.symm e), hlt, show ¬ c < c' by omega]
  ·rcases Int.lt_or_gt_of_ne h2 with hlt | hlt
   ·simp [h2, show ¬ b' = b from fun e => h2 (Eq.symm e), hlt, show ¬ b' < b by omega]
   ·simp [h2, show ¬ b' = b from fun e => h2 (Eq.symm e), hlt, show ¬ b < b' by omega]
 ·rcases Int.lt_or_gt_of_ne h1 with hlt | hlt
  ·simp [h1, show ¬ a' = a from fun e => h1 (Eq.symm e), hlt, show ¬ a' < a by omega]
  ·simp [h1, show ¬ a' = a from fun e => h1 (Eq.symm e), hlt, show ¬ a < a' by omega]
theorem lessV_trans {a b c : Int} {l : List ByteArray} {a' b' c' : Int} {l' : List ByteArray} {a'' b'' c'' : Int} {l'' : List ByteArray} (h : lessV a b c l a' b' c' l' = true) (h' : lessV a' b' c' l' a'' b'' c'' l'' = true) : lessV a b c l a'' b'' c'' l'' = true := by
 unfold lessV at h h' ⊢
 by_cases h1 : a = a'
 ·subst h1
  rw [if_pos rfl] at h
  by_cases k1 : a = a''
  ·subst k1
   rw [if_pos rfl] at h' ⊢
   by_cases h2 : b = b'
   ·subst h2
    rw [if_pos rfl] at h
    by_cases k2 : b = b''
    ·subst k2
     rw [if_pos rfl] at h' ⊢
     by_cases h3 : c = c'
     ·subst h3
      rw [if_pos rfl] at h
      by_cases k3 : c = c''
      ·subst k3
       rw [if_pos rfl] at h' ⊢
       exact lessP_trans h h'
      ·rw [if_neg k3] at h' ⊢
       exact h'
     ·rw [if_neg h3] at h
      by_cases k3 : c' = c''
      ·subst k3
       rw [if_neg h3]
       exact h
      ·rw [if_neg k3] at h'
       simp at h h'
       rw [if_neg (by omega)]
       simp
       omega
    ·rw [if_neg k2] at h' ⊢
     exact h'
   ·rw [if_neg h2] at h
    by_cases k2 : b' = b''
    ·subst k2
     rw [if_neg h2]
     exact h
    ·rw [if_neg k2] at h'
     simp at h h'
     rw [if_neg (by omega)]
     simp
     omega
  ·rw [if_neg k1] at h' ⊢
   exact h'
 ·rw [if_neg h1] at h
  by_cases k1 : a' = a''
  ·subst k1
   rw [if_neg h1]
   exact h
  ·rw [if_neg k1] at h'
   simp at h h'
   rw [if_neg (by omega)]
   simp
   omega
end Go.Proofs.YtbjgmbhkofgjaaaDoor.Pure
namespace Go.Proofs.YtbjgmbhkofgjaaaDoor.Pure
open Go.RowKit Go.Proofs.YtbjgmbhkofgjaaaDoor.PGB Go.Proofs.YtbjgmbhkofgjaaaDoorW.PrintWords Go.Proofs.YtbjgmbhkofgjaaaDoorW.PrintLast Go.Proofs.YtbjgmbhkofgjaaaDoor.Aux
theorem lawTexts_l (a b : List ByteArray) (hl : a.length ≤ 9223372036854775807) (hab : a.length = b.length) (d : Nat) : ∀ i : Nat, i + d = a.length →
  Ev (fun k => laws_sameTexts.l0 k a b (i : Int)) (decide (a.drop i = b.drop i)) := by
 induction d with
 | zero =>
  intro i hi
  have h1 : ¬ (i : Int) < (a.length : Int) := by omega
  refine Ev.succ ?_
  rw [List.drop_eq_nil_of_le (by omega), List.drop_eq_nil_of_le (by omega)]
  simp only [laws_sameTexts.l0, h1, if_false, decide_true]
  exact Ev.some
 | succ d ih =>
  intro i hi
  have hlt : i < a.length := by omega
  have hlb : i < b.length := by omega
  have h1 : (i : Int) < (a.length : Int) := by omega
  have h1b : (i : Int) < (b.length : Int) := by omega
  have h2 : (0 : Int) ≤ (i : Int) := by omega
  have h3 := next_i hlt hl
  refine Ev.succ ?_
  rw [drop_get hlt, drop_get hlb]
  simp only [laws_sameTexts.l0, h1, h1b, h2, h3, if_true, rdOf_cast _ hlt, rdOf_cast _ hlb, toList_inj]
  by_cases h : a[i] = b[i]
  ·simp only [h, if_true, List.cons.injEq, true_and]
   exact ih (i + 1) (by omega)
  ·simp only [h, if_false, List.cons.injEq, false_and, decide_false]
   exact Ev.some
theorem lawTexts (a b : List ByteArray) (hl : a.length ≤ 9223372036854775807) : Ev (fun k => laws_sameTexts.f k a b) (decide (a = b)) := by
 unfold laws_sameTexts.f
 by_cases h : (a.length : Int) = (b.length : Int)
 ·simp only [h, if_true]
  refine Ev.succ ?_
  simp only [laws_sameTexts.j0]
  exact lawTexts_l a b hl (by omega) a.length 0 (by omega)
 ·simp only [h, if_false]
  refine Ev.cast Ev.some ?_
  rw [eq_comm, decide_eq_false_iff_not]
  exact fun e => h (by rw [e])
theorem lawVer (a b c : Int) (l : List ByteArray) (hl : l.length ≤ 9223372036854775807) : Ev (fun k => laws_sameVer.f k a b c l a b c l) true := by
 unfold laws_sameVer.f
 simp only [if_true]
 refine Ev.bind (lawTexts l l hl) ?_
 simp only [decide_true]
 exact Ev.some
end Go.Proofs.YtbjgmbhkofgjaaaDoor.Pure
