/- What the functions come to that the law FnExactParseVer reaches: the parts, one behind the other. -/
import Derived.Test.YtpmooegakomnbabDoorAux
import Derived.Test.YtpmooegakomnbabDoorPGDx0
import Derived.Test.YtpmooegakomnbabDoorPGDx1
import Derived.Test.YtpmooegakomnbabDoorPGDx6
import Derived.Test.YtpmooegakomnbabDoorPGDx7
import Derived.Lib.SplitLaws
import Derived.Lib.Join
import Derived.Test.YtpmooegakomnbabDoorPGDx4
import Derived.Lib.CutLaws
import Derived.Test.YtpmooegakomnbabDoorPGDx2
import Derived.Test.YtpmooegakomnbabDoorPGDx5
import Derived.Test.YtpmooegakomnbabDoorPGDx3
import Derived.Lib.ItoaNum
set_option linter.unusedVariables false
set_option linter.unusedSimpArgs false
/- What the laws' helpers over slices of strings come to: their sizes, copies and comparisons. -/
namespace Go.Proofs.YtpmooegakomnbabDoor.Pure
open Go.RowKit Go.Proofs.YtpmooegakomnbabDoor.PGD Go.Proofs.YtpmooegakomnbabDoorW.PrintWords Go.Proofs.YtpmooegakomnbabDoorW.PrintLast Go.Proofs.YtpmooegakomnbabDoor.Aux

theorem eqStringS_l (a b : List ByteArray) (hl : a.length ≤ 9223372036854775807) (hab : a.length = b.length) (d : Nat) : ∀ i : Nat, i + d = a.length →
    Ev (fun k => laws_eqStringS.l0 k a b (i : Int)) (decide (a.drop i = b.drop i)) := by
  induction d with
  | zero =>
    intro i hi
    have h1 : ¬ (i : Int) < (a.length : Int) := by omega
    refine Ev.succ ?_
    rw [List.drop_eq_nil_of_le (by omega), List.drop_eq_nil_of_le (by omega)]
    simp only [laws_eqStringS.l0, h1, if_false, decide_true]
    exact Ev.some
  | succ d ih =>
    intro i hi
    have hlt : i < a.length := by omega
    have hlb : i < b.length := by omega
    have h1 : (i : Int) < (a.length : Int) := by omega
    have h1b : (i : Int) < (b.length : Int) := by omega
    have h2 : (0 : Int) ≤ (i : Int) := by omega
    have h3 := next_i hlt hl
    refine Ev.succ ?_
    rw [drop_get hlt, drop_get hlb]
    simp only [laws_eqStringS.l0, h1, h1b, h2, h3, if_true, rdOf_cast _ hlt, rdOf_cast _ hlb, toList_inj]
    by_cases h : a[i] = b[i]
    · simp only [h, if_true, List.cons.injEq, true_and]
      exact ih (i + 1) (by omega)
    · simp only [h, if_false, List.cons.injEq, false_and, decide_false]
      exact Ev.some

theorem eqStringS (a b : List ByteArray) (hl : a.length ≤ 9223372036854775807) : Ev (fun k => laws_eqStringS.f k a b) (decide (a = b)) := by
  unfold laws_eqStringS.f
  by_cases h : (a.length : Int) = (b.length : Int)
  · simp only [h, if_true]
    refine Ev.succ ?_
    simp only [laws_eqStringS.j0]
    exact eqStringS_l a b hl (by omega) a.length 0 (by omega)
  · simp only [h, if_false]
    have : ¬ a = b := fun e => h (by rw [e])
    simp only [this, decide_false]
    exact Ev.some
end Go.Proofs.YtpmooegakomnbabDoor.Pure
/- What the laws' helpers over versions come to, and SameVer of the reference and of the program. -/
namespace Go.Proofs.YtpmooegakomnbabDoor.Pure
open Go.RowKit Go.Proofs.YtpmooegakomnbabDoor.PGD Go.Proofs.YtpmooegakomnbabDoorW.PrintWords Go.Proofs.YtpmooegakomnbabDoorW.PrintLast Go.Proofs.YtpmooegakomnbabDoor.Aux

theorem eqVer (a b c : Int) (l : List ByteArray) (hl : l.length ≤ 9223372036854775807) : Ev (fun k => laws_eqVer.f k a b c l a b c l) true := by
  unfold laws_eqVer.f
  simp only [if_true]
  refine Ev.succ ?_
  simp only [laws_eqVer.j0, if_true]
  refine Ev.succ ?_
  simp only [laws_eqVer.j1, if_true]
  refine Ev.bind (eqStringS l l hl) ?_
  simp only [decide_true, if_true]
  exact Ev.some

end Go.Proofs.YtpmooegakomnbabDoor.Pure
/- What the marks come to that the laws put into slices of strings, and what is held of them. -/
namespace Go.Proofs.YtpmooegakomnbabDoor.Pure
open Go.RowKit Go.Proofs.YtpmooegakomnbabDoor.PGD Go.Proofs.YtpmooegakomnbabDoorW.PrintWords Go.Proofs.YtpmooegakomnbabDoorW.PrintLast Go.Proofs.YtpmooegakomnbabDoor.Aux

theorem strOfNums_size (l : List Int) : (strOfNums l).size = l.length := by
  unfold strOfNums
  simp [ByteArray.size]
theorem markText_l (n : Nat) : ∀ (x : Nat) (t : ByteArray), x ≤ n → x + t.size ≤ 1099511627776 → ∃ r, Ev (fun k => laws_markText.l0 k (x : Int) t) r := by
  induction n with
  | zero =>
    intro x t hx ht
    obtain rfl : x = 0 := by omega
    refine ⟨(⟨#[109]⟩ : ByteArray) ++ t, Ev.succ ?_⟩
    · simp only [laws_markText.l0, show ¬ ((0 : Nat) : Int) > 0 by omega, if_false, show 1 + t.size ≤ 9223372036854775807 by omega, if_true]
      exact Ev.some
  | succ n ih =>
    intro x t hx ht
    by_cases h0 : x = 0
    · subst h0
      refine ⟨(⟨#[109]⟩ : ByteArray) ++ t, Ev.succ ?_⟩
      · simp only [laws_markText.l0, show ¬ ((0 : Nat) : Int) > 0 by omega, if_false, show 1 + t.size ≤ 9223372036854775807 by omega, if_true]
        exact Ev.some
    · have hd : wrap64 (Int.tdiv (x : Int) 10) = ((x / 10 : Nat) : Int) := by
        rw [Int.tdiv_eq_ediv_of_nonneg (by omega)]
        rw [wrap64_id (by omega) (by omega)]
        omega
      have hsz : (strOfNums [wrap64 (48 + Int.tmod (x : Int) 10) % 256]).size = 1 := strOfNums_size _
      obtain ⟨r, hr⟩ := ih (x / 10) (strOfNums [wrap64 (48 + Int.tmod (x : Int) 10) % 256] ++ t) (by omega) (by rw [ByteArray.size_append, hsz]; omega)
      refine ⟨r, Ev.succ ?_⟩
      simp only [laws_markText.l0, show (x : Int) > 0 by omega, if_true, Option.bind_some, hsz, show 1 + t.size ≤ 9223372036854775807 by omega, hd]
      exact hr
theorem markText_ex (x : Int) (h : x ≤ 4398046511104 / 8) : ∃ r, Ev (fun k => laws_markText.f k x) r := by
  unfold laws_markText.f
  by_cases h0 : x ≤ 0
  · simp only [h0, if_true]
    exact ⟨_, Ev.some⟩
  · simp only [h0, if_false]
    obtain ⟨n, rfl⟩ : ∃ n : Nat, x = n := ⟨x.toNat, by omega⟩
    obtain ⟨r, hr⟩ := markText_l n n (⟨#[]⟩ : ByteArray) (Nat.le_refl _) (by show n + 0 ≤ _; omega)
    refine ⟨r, Ev.succ ?_⟩
    simp only [laws_markText.j0]
    exact hr
open Classical in
/-- The mark of a number. -/
noncomputable def mkT (x : Int) : ByteArray := if h : ∃ r, Ev (fun k => laws_markText.f k x) r then h.choose else ByteArray.empty
theorem markText (x : Int) (h : x ≤ 549755813888) : Ev (fun k => laws_markText.f k x) (mkT x) := by
  have hx := markText_ex x (by omega)
  unfold mkT
  rw [dif_pos hx]
  exact hx.choose_spec
/-- As many marks, one behind the other. -/
noncomputable def mks (x : Int) : Nat → List ByteArray
  | 0 => []
  | n + 1 => mkT x :: mks (x + 1) n
theorem mks_length : ∀ (n : Nat) (x : Int), (mks x n).length = n
  | 0, _ => rfl
  | n + 1, x => by rw [mks, List.length_cons, mks_length n]
theorem mks_get : ∀ (n : Nat) (x : Int) (i : Nat) (h : i < (mks x n).length), (mks x n)[i] = mkT (x + i)
  | 0, _, _, h => absurd h (by simp [mks])
  | n + 1, x, 0, _ => by simp [mks]
  | n + 1, x, i + 1, h => by
    have := mks_get n (x + 1) i (by simpa [mks] using h)
    simp only [mks, List.getElem_cons_succ, this]
    congr 1
    omega

theorem markStringS_l (n : Nat) (x : Int) (hx0 : 0 ≤ x) (hx : x + n ≤ 549755813888) (d : Nat) : ∀ (i : Nat) (l : List ByteArray), i + d = n → l.length = n → l.take i = (mks x n).take i →
    Ev (fun k => laws_markStringS.l0 k l (x + i) (i : Int)) (x + n, mks x n) := by
  induction d with
  | zero =>
    intro i l hi hl he
    obtain rfl : i = n := by omega
    have e : l = mks x i := by rwa [List.take_of_length_le (by omega), List.take_of_length_le (by rw [mks_length]; exact Nat.le_refl _)] at he
    subst e
    have h1 : ¬ (i : Int) < ((mks x i).length : Int) := by omega
    refine Ev.succ ?_
    simp only [laws_markStringS.l0, h1, if_false]
    exact Ev.some
  | succ d ih =>
    intro i l hi hl he
    have h1 : (i : Int) < (l.length : Int) := by omega
    have h2 : (0 : Int) ≤ (i : Int) := by omega
    have h3 := next_i (show i < n by omega) (by omega)
    have h4 : wrap64 (x + i + 1) = x + ((i + 1 : Nat) : Int) := by rw [wrap64_id (by omega) (by omega)]; omega
    refine Ev.succ ?_
    simp only [laws_markStringS.l0, h1, if_true]
    refine Ev.bind (markText (x + i) (by omega)) ?_
    simp only [h2, if_true, h3, h4, Int.toNat_natCast]
    refine ih (i + 1) _ (by omega) (by simpa using hl) ?_
    have := take_set_step (l := l) (m := mks x n) (i := i) (by omega) (by rw [mks_length]; omega) he
    rwa [mks_get n x i (by rw [mks_length]; omega)] at this
theorem markStringS (l : List ByteArray) (x : Int) (hx0 : 0 ≤ x) (hx : x + l.length ≤ 549755813888) : Ev (fun k => laws_markStringS.f k l x) (x + l.length, mks x l.length) := by
  unfold laws_markStringS.f
  have := markStringS_l l.length x hx0 hx l.length 0 l (by omega) rfl (by simp)
  simpa using this

theorem heldStringS_l (n : Nat) (x : Int) (hx0 : 0 ≤ x) (hx : x + n ≤ 549755813888) (d : Nat) : ∀ (i : Nat), i + d = n → Ev (fun k => laws_heldStringS.l0 k (mks x n) (x + i) (i : Int)) (x + n) := by
  induction d with
  | zero =>
    intro i hi
    obtain rfl : i = n := by omega
    have h1 : ¬ (i : Int) < ((mks x i).length : Int) := by rw [mks_length]; omega
    refine Ev.succ ?_
    simp only [laws_heldStringS.l0, h1, if_false]
    exact Ev.some
  | succ d ih =>
    intro i hi
    have hlt : i < (mks x n).length := by rw [mks_length]; omega
    have h1 : (i : Int) < ((mks x n).length : Int) := by omega
    have h2 : (0 : Int) ≤ (i : Int) := by omega
    have h3 := next_i (show i < n by omega) (by omega)
    have h4 : wrap64 (x + i + 1) = x + ((i + 1 : Nat) : Int) := by rw [wrap64_id (by omega) (by omega)]; omega
    refine Ev.succ ?_
    simp only [laws_heldStringS.l0, h1, h2, if_true, rdOf_cast _ hlt, mks_get n x i hlt]
    refine Ev.bind (markText (x + i) (by omega)) ?_
    simp only [if_true, h3, h4]
    exact ih (i + 1) (by omega)
theorem heldStringS (x : Int) (n : Nat) (hx0 : 0 ≤ x) (hx : x + n ≤ 549755813888) : Ev (fun k => laws_heldStringS.f k (mks x n) x) (x + n) := by
  unfold laws_heldStringS.f
  have := heldStringS_l n x hx0 hx n 0 (by omega)
  simpa using this
end Go.Proofs.YtpmooegakomnbabDoor.Pure
/- What a text comes to when it is split: one piece behind the other. -/
namespace Go.Proofs.YtpmooegakomnbabDoor.Pure
open Go.RowKit Go.Proofs.YtpmooegakomnbabDoor.Aux Go.Proofs.YtpmooegakomnbabDoorW.PrintWords

theorem Ev.yes {α : Type} {c : Prop} [Decidable c] {g f : Nat → Option α} {r : α} (hc : c) (h : Ev g r) : Ev (fun k => if c then g k else f k) r := by
  simpa only [hc, if_true] using h
theorem Ev.no {α : Type} {c : Prop} [Decidable c] {g f : Nat → Option α} {r : α} (hc : ¬ c) (h : Ev f r) : Ev (fun k => if c then g k else f k) r := by
  simpa only [hc, if_false] using h
/-- The bytes u ahead of the first piece. -/
def glue (u : List UInt8) : List (List UInt8) → List (List UInt8)
  | [] => [u]
  | p :: ps => (u ++ p) :: ps
theorem glue_nil : ∀ {l : List (List UInt8)}, l ≠ [] → glue [] l = l
  | [], h => absurd rfl h
  | _ :: _, _ => rfl
theorem glue_glue (u v : List UInt8) : ∀ l : List (List UInt8), l ≠ [] → glue u (glue v l) = glue (u ++ v) l
  | [], h => absurd rfl h
  | p :: ps, _ => by simp [glue]
theorem glue_ne (u : List UInt8) : ∀ l, glue u l ≠ []
  | [] => by simp [glue]
  | _ :: _ => by simp [glue]

theorem split_miss {s sep : List UInt8} (h : Lib.index s sep = -1) : Lib.split s sep = [s] := by
  unfold Lib.split
  rw [Lib.count_miss h]
  rfl
theorem split_hit {s sep : List UInt8} {i : Nat} (h1 : sep ≠ []) (h : Lib.index s sep = i) : Lib.split s sep = s.take i :: Lib.split (s.drop (i + sep.length)) sep := by
  unfold Lib.split
  rw [Lib.count_hit h1 h, Nat.add_comm]
  have hm : ¬ (Lib.index s sep == -1) = true := fun e => by have := beq_iff_eq.1 e; omega
  have e : (Lib.index s sep).toNat = i := by omega
  rw [Lib.splitK, if_neg hm, e]
  rfl
theorem split_ne (s sep : List UInt8) : Lib.split s sep ≠ [] := by
  unfold Lib.split
  cases Lib.count s sep with
  | zero => simp [Lib.splitK]
  | succ k =>
    unfold Lib.splitK
    split <;> simp
theorem split_nil {sep : List UInt8} (h1 : sep ≠ []) : Lib.split [] sep = [[]] := by
  refine split_miss ?_
  cases sep with
  | nil => exact absurd rfl h1
  | cons a b => rfl
theorem split_at {s sep : List UInt8} (h1 : sep ≠ []) (h : sep.isPrefixOf s = true) : Lib.split s sep = [] :: Lib.split (s.drop sep.length) sep := by
  have hi : Lib.index s sep = ((0 : Nat) : Int) := by
    cases s with
    | nil =>
      cases sep with
      | nil => exact absurd rfl h1
      | cons a b => simp at h
    | cons b l => unfold Lib.index; rw [if_pos h]; rfl
  rw [split_hit h1 hi]
  simp
theorem split_by {b : UInt8} {l sep : List UInt8} (h1 : sep ≠ []) (h : sep.isPrefixOf (b :: l) = false) : Lib.split (b :: l) sep = glue [b] (Lib.split l sep) := by
  have hx : Lib.index (b :: l) sep = if Lib.index l sep == -1 then -1 else Lib.index l sep + 1 := by rw [Lib.index, h]; simp
  by_cases hm : Lib.index l sep = -1
  · rw [split_miss hm, split_miss (by rw [hx, if_pos (beq_iff_eq.2 hm)])]
    rfl
  · have hge := Lib.index_ge l sep
    obtain ⟨j, hj⟩ : ∃ j : Nat, Lib.index l sep = j := ⟨(Lib.index l sep).toNat, by omega⟩
    have hx' : Lib.index (b :: l) sep = ((j + 1 : Nat) : Int) := by rw [hx, if_neg (fun e => hm (beq_iff_eq.1 e)), hj]; omega
    rw [split_hit h1 hj, split_hit h1 hx']
    simp [glue, Nat.add_right_comm]

theorem split_one_at (c : UInt8) (l : List UInt8) : Lib.split (c :: l) [c] = [] :: Lib.split l [c] := by
  rw [split_at (sep := [c]) (by simp) (by unfold List.isPrefixOf; simp)]
  rfl
theorem split_one_by {b c : UInt8} (l : List UInt8) (h : ¬ b = c) : Lib.split (b :: l) [c] = glue [b] (Lib.split l [c]) :=
  split_by (by simp) (by
    unfold List.isPrefixOf
    rw [show (c == b) = false from by simpa using fun e => h e.symm]
    rfl)

/-- A text of bytes. -/
def ofL (l : List UInt8) : ByteArray := ⟨l.toArray⟩
theorem ofL_data (s : ByteArray) : ofL s.data.toList = s := by cases s; simp [ofL]
theorem data_ofL (l : List UInt8) : (ofL l).data.toList = l := by simp [ofL]
theorem ofL_size (l : List UInt8) : (ofL l).size = l.length := by simp [ofL, ByteArray.size]
/-- The pieces of a text. -/
def piecesB (s sep : ByteArray) : List ByteArray := (Lib.split s.data.toList sep.data.toList).map ofL
theorem splitB_pieces (s sep : ByteArray) : Lib.splitB sep 0 (Lib.countB s sep) s = piecesB s sep := by
  have h := Lib.splitB_data sep 0 (Lib.countB s sep) s
  unfold piecesB Lib.split
  rw [← h, List.map_map]
  conv => lhs; rw [← List.map_id (Lib.splitB sep 0 (Lib.countB s sep) s)]
  exact List.map_congr_left (fun x _ => by simp [ofL_data])
theorem extract_ofL (s : ByteArray) (a b : Nat) : s.extract a b = ofL ((s.data.toList.drop a).take (b - a)) := by
  rw [← ofL_data (s.extract a b), Lib.extract_data]
theorem data_drop {s : ByteArray} {i : Nat} (h : i < s.size) : ∃ b : UInt8, s.data.toList.drop i = b :: s.data.toList.drop (i + 1) ∧ bt s (i : Int) = (b.toNat : Int) ∧ s.data.toList[i]? = some b := by
  have hl : i < s.data.toList.length := by simpa using h
  refine ⟨s.data.toList[i], List.drop_eq_getElem_cons hl, ?_, List.getElem?_eq_getElem hl⟩
  rw [bt_bs]
  unfold bs
  rw [List.getD_eq_getElem?_getD, Int.toNat_natCast, List.getElem?_map, List.getElem?_eq_getElem hl]
  rfl
/-- How many pieces, and how long each is. -/
theorem pieces_mem {s sep : ByteArray} (h1 : sep.data.toList ≠ []) : ∀ x ∈ piecesB s sep, x.size ≤ s.size := by
  have main : ∀ (n : Nat) (l : List UInt8), l.length = n → ∀ x ∈ Lib.split l sep.data.toList, x.length ≤ n := by
    intro n
    induction n using Nat.strongRecOn with
    | _ n ih =>
      intro l hl x hx
      rcases Lib.index_spec l sep.data.toList with ⟨hm, _⟩ | ⟨i, hi, hle, _, _⟩
      · rw [split_miss hm] at hx
        obtain rfl := List.mem_singleton.1 hx
        omega
      · rw [split_hit h1 hi] at hx
        have hp : 0 < sep.data.toList.length := List.length_pos_iff.2 h1
        have hr := Lib.index_room l sep.data.toList (by omega)
        rcases List.mem_cons.1 hx with rfl | hx
        · rw [List.length_take]; omega
        · have := ih (l.length - (i + sep.data.toList.length)) (by omega) _ (by rw [List.length_drop]) x hx
          omega
  intro x hx
  obtain ⟨u, hu, rfl⟩ := List.mem_map.1 hx
  rw [ofL_size]
  have := main _ _ rfl u hu
  rwa [show s.data.toList.length = s.size from by simp] at this
theorem pieces_length {s sep : ByteArray} (h1 : 1 ≤ sep.size) : (piecesB s sep).length ≤ s.size + 1 := by
  rw [← splitB_pieces]
  have := Lib.splitB_length_le sep 0 (Lib.countB s sep) s
  have := Lib.countB_le sep h1 s.size s (Nat.le_refl _)
  omega
end Go.Proofs.YtpmooegakomnbabDoor.Pure
/- What Join comes to, of the reference and of the program. -/
namespace Go.Proofs.YtpmooegakomnbabDoor.Pure
open Go.RowKit Go.Proofs.YtpmooegakomnbabDoor.PGD Go.Proofs.YtpmooegakomnbabDoorW.PrintWords Go.Proofs.YtpmooegakomnbabDoorW.PrintLast Go.Proofs.YtpmooegakomnbabDoor.Aux

def dats (l : List ByteArray) : List (List UInt8) := l.map (·.data.toList)
def joinB (l : List ByteArray) (sep : ByteArray) : ByteArray := ofL (Lib.join (dats l) sep.data.toList)
/-- How many bytes it takes at most. -/
def joinN (l : List ByteArray) (sep : ByteArray) : Nat := sep.size * l.length + Lib.lens (dats l)
theorem lens_szT : ∀ l : List ByteArray, (Lib.lens (dats l) : Int) = szT l
  | [] => rfl
  | x :: r => by
    have := lens_szT r
    simp only [Lib.lens, dats, List.map_cons, List.sum_cons, szT] at this ⊢
    rw [← this]
    simp
theorem joinB_size (l : List ByteArray) (sep : ByteArray) : (joinB l sep).size ≤ joinN l sep := by
  unfold joinB joinN
  rw [ofL_size]
  cases l with
  | nil => simp [dats, Lib.join_nil]
  | cons x r =>
    rw [show dats (x :: r) = x.data.toList :: dats r from rfl, Lib.join_length]
    have h1 : (dats r).length = r.length := by simp [dats]
    have h2 : sep.data.toList.length = sep.size := by simp
    rw [h1, h2, List.length_cons, Nat.mul_succ]
    omega
theorem strings_join (l : List ByteArray) (sep : ByteArray) (hb : joinN l sep ≤ 140737488355328) (hr : l.length ≤ 140737488355328) : strings_Join.f l sep = some (joinB l sep) := by
  have h := joinB_size l sep
  unfold joinB at h
  rw [ofL_size] at h
  unfold strings_Join.f
  rw [if_pos ⟨Nat.le_trans h hb, hr⟩]
  rfl
end Go.Proofs.YtpmooegakomnbabDoor.Pure
/- What is split comes back joined; what a text is cut into at a byte. -/
namespace Go.Proofs.YtpmooegakomnbabDoor.Pure
open Go.RowKit Go.Proofs.YtpmooegakomnbabDoor.PGD Go.Proofs.YtpmooegakomnbabDoorW.PrintWords Go.Proofs.YtpmooegakomnbabDoorW.PrintLast Go.Proofs.YtpmooegakomnbabDoor.Aux

theorem join_two (x y : List UInt8) (r : List (List UInt8)) (sep : List UInt8) : Lib.join (x :: y :: r) sep = x ++ sep ++ Lib.join (y :: r) sep := by
  rw [Lib.join_cons, Lib.join_cons]
  simp [Lib.joinTail, List.append_assoc]
theorem join_glue (u : List UInt8) (sep : List UInt8) : ∀ l : List (List UInt8), Lib.join (glue u l) sep = u ++ Lib.join l sep
  | [] => by simp [glue, Lib.join_one, Lib.join_nil]
  | p :: ps => by rw [glue, Lib.join_cons, Lib.join_cons, List.append_assoc]
theorem join_split (c : UInt8) : ∀ l : List UInt8, Lib.join (Lib.split l [c]) [c] = l
  | [] => by rw [split_nil (by simp), Lib.join_one]
  | b :: l => by
    have ih := join_split c l
    by_cases h : b = c
    · subst h
      rw [split_one_at]
      cases hs : Lib.split l [b] with
      | nil => exact absurd hs (split_ne _ _)
      | cons y r =>
        rw [hs] at ih
        rw [join_two, ih]
        rfl
    · rw [split_one_by _ h, join_glue, ih]
      rfl
theorem dats_pieces (s sep : ByteArray) : dats (piecesB s sep) = Lib.split s.data.toList sep.data.toList := by
  unfold dats piecesB
  rw [List.map_map]
  conv => rhs; rw [← List.map_id (Lib.split s.data.toList sep.data.toList)]
  exact List.map_congr_left (fun x _ => data_ofL x)
theorem joinB_pieces (s : ByteArray) (c : UInt8) : joinB (piecesB s ⟨#[c]⟩) ⟨#[c]⟩ = s := by
  unfold joinB
  rw [dats_pieces, show (⟨#[c]⟩ : ByteArray).data.toList = [c] from rfl, join_split, ofL_data]
theorem joinN_size {l : List ByteArray} {sep : ByteArray} (h : l ≠ []) : joinN l sep = sep.size + (joinB l sep).size := by
  cases l with
  | nil => exact absurd rfl h
  | cons x r =>
    unfold joinN joinB
    rw [ofL_size, show dats (x :: r) = x.data.toList :: dats r from rfl, Lib.join_cons, List.length_append, Lib.joinTail_length]
    have h1 : (dats r).length = r.length := by simp [dats]
    have h2 : sep.data.toList.length = sep.size := by simp
    simp only [Lib.lens, List.map_cons, List.sum_cons, h1, h2, List.length_cons, Nat.mul_succ]
    omega
theorem pieces_ne (s sep : ByteArray) : piecesB s sep ≠ [] := by
  unfold piecesB
  simp [split_ne]
theorem joinN_pieces (s : ByteArray) (c : UInt8) : joinN (piecesB s ⟨#[c]⟩) ⟨#[c]⟩ = s.size + 1 := by
  rw [joinN_size (pieces_ne _ _), joinB_pieces, show (⟨#[c]⟩ : ByteArray).size = 1 from rfl]
  omega

/-- The first place of a byte; the text's length where there is none. -/
def at1 (c : UInt8) (l : List UInt8) : Nat := l.findIdx (· == c)
theorem at1_nil (c : UInt8) : at1 c [] = 0 := rfl
theorem at1_hit (c : UInt8) (l : List UInt8) : at1 c (c :: l) = 0 := by simp [at1, List.findIdx_cons]
theorem at1_miss {b c : UInt8} (h : ¬ b = c) (l : List UInt8) : at1 c (b :: l) = at1 c l + 1 := by
  unfold at1
  rw [List.findIdx_cons, show (b == c) = false from by simpa using h]
  rfl
theorem at1_le (c : UInt8) (l : List UInt8) : at1 c l ≤ l.length := List.findIdx_le_length
theorem index_one (c : UInt8) : ∀ l : List UInt8, Lib.index l [c] = if at1 c l < l.length then (at1 c l : Int) else -1
  | [] => rfl
  | b :: l => by
    have ih := index_one c l
    by_cases h : b = c
    · subst h
      rw [Lib.index, at1_hit]
      simp [List.isPrefixOf]
    · have hp : [c].isPrefixOf (b :: l) = false := by
        unfold List.isPrefixOf
        rw [show (c == b) = false from by simpa using fun e => h e.symm]
        rfl
      rw [Lib.index, hp, at1_miss h, ih, List.length_cons]
      simp only [Bool.false_eq_true, if_false]
      by_cases hl : at1 c l < l.length
      · have hq : ¬ ((at1 c l : Int) == -1) = true := fun e => by have := beq_iff_eq.1 e; omega
        simp only [hl, if_true, if_neg hq, show at1 c l + 1 < l.length + 1 by omega]
        omega
      · simp [hl]
def headB (c : UInt8) (s : ByteArray) : ByteArray := ofL (s.data.toList.take (at1 c s.data.toList))
def tailB (c : UInt8) (s : ByteArray) : ByteArray := ofL (s.data.toList.drop (at1 c s.data.toList + 1))
def hasB (c : UInt8) (s : ByteArray) : Bool := decide (at1 c s.data.toList < s.data.toList.length)
theorem headB_size (c : UInt8) (s : ByteArray) : (headB c s).size ≤ s.size := by
  unfold headB
  rw [ofL_size, List.length_take]
  have : s.data.toList.length = s.size := by simp
  omega
theorem tailB_size (c : UInt8) (s : ByteArray) : (tailB c s).size ≤ s.size := by
  unfold tailB
  rw [ofL_size, List.length_drop]
  have : s.data.toList.length = s.size := by simp
  omega
theorem at1_get (c : UInt8) : ∀ l : List UInt8, at1 c l < l.length → l = l.take (at1 c l) ++ c :: l.drop (at1 c l + 1)
  | [], h => absurd h (by simp)
  | b :: l, h => by
    by_cases e : b = c
    · subst e
      rw [at1_hit]
      rfl
    · rw [at1_miss e] at h ⊢
      have := at1_get c l (by simpa using h)
      simp only [List.take_succ_cons, List.drop_succ_cons, List.cons_append]
      exact congrArg (b :: ·) this
theorem head_has {c : UInt8} {s : ByteArray} (h : hasB c s = true) : headB c s ++ (⟨#[c]⟩ ++ tailB c s) = s := by
  have h1 := at1_get c s.data.toList (by simpa [hasB] using h)
  rw [← ofL_data (headB c s ++ (⟨#[c]⟩ ++ tailB c s))]
  conv => rhs; rw [← ofL_data s, h1]
  unfold headB tailB
  simp [ofL]
theorem head_not {c : UInt8} {s : ByteArray} (h : hasB c s = false) : headB c s = s := by
  have h1 : ¬ at1 c s.data.toList < s.data.toList.length := by simpa [hasB] using h
  unfold headB
  rw [List.take_of_length_le (by omega), ofL_data]
theorem cut_one (c : UInt8) (s : ByteArray) : Lib.cut s.data.toList [c] = if hasB c s = true then ((headB c s).data.toList, (tailB c s).data.toList, true) else (s.data.toList, [], false) := by
  unfold Lib.cut headB tailB hasB
  rw [index_one, data_ofL, data_ofL]
  by_cases h : at1 c s.data.toList < s.data.toList.length
  · simp only [h, if_true, decide_true, show (0 : Int) ≤ (at1 c s.data.toList : Int) by omega, Int.toNat_natCast, List.length_cons, List.length_nil]
  · simp only [h, if_false, decide_false, Bool.false_eq_true, show ¬ (0 : Int) ≤ -1 by omega]
end Go.Proofs.YtpmooegakomnbabDoor.Pure
/- What Split comes to, of the reference and of the program: the pieces of the text. -/
namespace Go.Proofs.YtpmooegakomnbabDoor.Pure
open Go.RowKit Go.Proofs.YtpmooegakomnbabDoor.PGD Go.Proofs.YtpmooegakomnbabDoorW.PrintWords Go.Proofs.YtpmooegakomnbabDoorW.PrintLast Go.Proofs.YtpmooegakomnbabDoor.Aux

theorem spec_split_l (s : ByteArray) (c : UInt8) (hs : s.size ≤ 16777216) (d : Nat) : ∀ (i fr : Nat) (out : List ByteArray), i + d = s.size → fr ≤ i → out.length ≤ i →
    Ev (fun k => spec_Split.l0 k s (c.toNat : Int) out (fr : Int) (i : Int)) (out ++ (glue ((s.data.toList.drop fr).take (i - fr)) (Lib.split (s.data.toList.drop i) [c])).map ofL) := by
  induction d with
  | zero =>
    intro i fr out hi hf ho
    obtain rfl : i = s.size := by omega
    have h3 := wrap64_id (i := (s.size : Int) + 1) (by omega) (by omega)
    have hd : s.data.toList.drop s.size = [] := List.drop_eq_nil_of_le (by simp)
    refine Ev.succ ?_
    simp only [spec_Split.l0, Int.le_refl, if_true, show (0 : Int) ≤ (fr : Int) by omega, show (fr : Int) ≤ (s.size : Int) by omega, show out.length < 8796093022208 by omega, h3]
    refine Ev.succ ?_
    simp only [spec_Split.l0, show ¬ ((s.size : Int) + 1 ≤ (s.size : Int)) by omega, if_false]
    refine Ev.cast Ev.some ?_
    rw [hd, split_nil (by simp)]
    simp only [glue, List.append_nil, List.map_cons, List.map_nil, Int.toNat_natCast, extract_ofL]
  | succ d ih =>
    intro i fr out hi hf ho
    have hlt : i < s.size := by omega
    have h3 := next_i hlt (by omega)
    obtain ⟨b, hb, hbt, hg⟩ := data_drop hlt
    refine Ev.succ ?_
    simp only [spec_Split.l0, show (i : Int) ≤ (s.size : Int) by omega, show ¬ (i : Int) = (s.size : Int) by omega, show (0 : Int) ≤ (i : Int) by omega, show (i : Int) < (s.size : Int) by omega, if_true, if_false, h3, hbt]
    by_cases h : b = c
    · subst h
      simp only [show (0 : Int) ≤ (fr : Int) by omega, show (fr : Int) ≤ (i : Int) by omega, show out.length < 8796093022208 by omega, if_true]
      refine Ev.cast (ih (i + 1) (i + 1) _ (by omega) (by omega) (by simp; omega)) ?_
      rw [hb, split_one_at, Nat.sub_self, List.take_zero, glue_nil (split_ne _ _)]
      simp only [glue, List.append_nil, List.map_cons, List.append_assoc, List.singleton_append, Int.toNat_natCast, extract_ofL]
    · have hne : ¬ ((b.toNat : Int) = (c.toNat : Int)) := fun e => h (UInt8.toNat_inj.1 (by omega))
      simp only [hne, if_false]
      refine Ev.cast (ih (i + 1) fr out (by omega) (by omega) (by omega)) ?_
      rw [hb, split_one_by _ h, glue_glue _ _ _ (split_ne _ _)]
      congr 3
      have hx : (s.data.toList.drop fr)[i - fr]? = some b := by rw [List.getElem?_drop, show fr + (i - fr) = i by omega, hg]
      rw [show i + 1 - fr = (i - fr) + 1 by omega, List.take_add_one, hx]
      rfl
theorem spec_split (s : ByteArray) (c : UInt8) (hs : s.size ≤ 16777216) : Ev (fun k => spec_Split.f k s (c.toNat : Int)) (piecesB s ⟨#[c]⟩) := by
  unfold spec_Split.f
  refine Ev.cast (spec_split_l s c hs s.size 0 0 [] (by omega) (by omega) (by simp)) ?_
  rw [List.nil_append, List.drop_zero, Nat.sub_self, List.take_zero, glue_nil (split_ne _ _)]
  rfl
theorem strings_split (s : ByteArray) (c : UInt8) (hs : s.size ≤ 16777216) : strings_Split.f s ⟨#[c]⟩ = some (piecesB s ⟨#[c]⟩) := by
  unfold strings_Split.f
  rw [if_pos ⟨by omega, by show 1 ≤ 1; omega⟩, splitB_pieces]
end Go.Proofs.YtpmooegakomnbabDoor.Pure
/- The kinds of bytes: what the reference's and the program's tests of one byte come to. -/
namespace Go.Proofs.YtpmooegakomnbabDoor.Pure
open Go.RowKit Go.Proofs.YtpmooegakomnbabDoor.PGD Go.Proofs.YtpmooegakomnbabDoorW.PrintWords Go.Proofs.YtpmooegakomnbabDoorW.PrintLast Go.Proofs.YtpmooegakomnbabDoor.Aux

def inB (x a b : Int) : Bool := decide (a ≤ x) && decide (x ≤ b)
def smallB (x : Int) : Bool := inB x 97 122
def digitB (x : Int) : Bool := inB x 48 57
def upperB (x : Int) : Bool := inB x 65 90

theorem in_f (a b c : Int) : spec_l1In.f a b c = some (inB a b c) := by
  unfold spec_l1In.f inB
  by_cases h : b ≤ a <;> simp [h]
theorem inRange_f (a b c : Int) : impl_inRange.f a b c = some (inB a b c) := by
  unfold impl_inRange.f inB
  by_cases h : b ≤ a <;> simp [h]
theorem small_spec {x : Int} (h : 0 ≤ x ∧ x ≤ 255) : spec_l1Small.f x = some (smallB x) := by
  unfold spec_l1Small.f
  rw [wrap64_id (by omega) (by omega), in_f]
  rfl
theorem digit_spec {x : Int} (h : 0 ≤ x ∧ x ≤ 255) : spec_l1Digit.f x = some (digitB x) := by
  unfold spec_l1Digit.f
  rw [wrap64_id (by omega) (by omega), in_f]
  rfl
theorem small_impl (x : Int) : impl_isSmall.f x = some (smallB x) := by
  unfold impl_isSmall.f smallB inB
  by_cases h : 97 ≤ x <;> simp [h]
theorem digit_impl (x : Int) : impl_isFigure.f x = some (digitB x) := by
  unfold impl_isFigure.f digitB inB
  by_cases h : 48 ≤ x <;> simp [h]

end Go.Proofs.YtpmooegakomnbabDoor.Pure
/- What NumText comes to, of the reference and of the program: the decimal digits. -/
namespace Go.Proofs.YtpmooegakomnbabDoor.Pure
open Go.RowKit Go.Proofs.YtpmooegakomnbabDoor.PGD Go.Proofs.YtpmooegakomnbabDoorW.PrintWords Go.Proofs.YtpmooegakomnbabDoorW.PrintLast Go.Proofs.YtpmooegakomnbabDoor.Aux

/-- The text of a number's digits; of one below 0: "0". -/
def numB (x : Int) : ByteArray := ofL (Lib.decDigits x.toNat)
theorem dig_one (x : Nat) : strOfNums [wrap64 (48 + Int.tmod (x : Int) 10) % 256] = ofL [UInt8.ofNat (48 + x % 10)] := by
  have h : wrap64 (48 + Int.tmod (x : Int) 10) % 256 = ((48 + x % 10 : Nat) : Int) := by
    rw [Int.tmod_eq_emod_of_nonneg (by omega), wrap64_id (by omega) (by omega)]
    omega
  rw [h]
  rfl
theorem ofL_append (a b : List UInt8) : ofL a ++ ofL b = ofL (a ++ b) := by
  rw [← ofL_data (ofL a ++ ofL b)]
  simp [ofL]
theorem impl_num (x : Int) (h : x ≤ 9223372036854775807) : impl_NumText.f x = some (numB x) := by
  unfold impl_NumText.f strconv_Itoa.f
  have hm : mx x 0 = (x.toNat : Int) := by unfold mx; split <;> omega
  rw [hm, if_pos ⟨by omega, by omega⟩]
  simp only [Option.bind_some, numB, Lib.itoa, show ¬ ((x.toNat : Nat) : Int) < 0 by omega, if_false, Int.toNat_natCast]
  rfl
end Go.Proofs.YtpmooegakomnbabDoor.Pure
/- What ParseNum comes to, of the reference and of the program. -/
namespace Go.Proofs.YtpmooegakomnbabDoor.Pure
open Go.RowKit Go.Proofs.YtpmooegakomnbabDoor.PGD Go.Proofs.YtpmooegakomnbabDoorW.PrintWords Go.Proofs.YtpmooegakomnbabDoorW.PrintLast Go.Proofs.YtpmooegakomnbabDoor.Aux

/-- The number that digits tell. -/
def valL (l : List UInt8) : Nat := l.foldl (fun a b => a * 10 + (b.toNat - 48)) 0
theorem valL_snoc (l : List UInt8) (b : UInt8) : valL (l ++ [b]) = valL l * 10 + (b.toNat - 48) := by
  unfold valL
  rw [List.foldl_append]
  rfl
def digL (b : UInt8) : Bool := digitB (b.toNat : Int)
theorem digL_iff (b : UInt8) : digL b = true ↔ 48 ≤ b.toNat ∧ b.toNat ≤ 57 := by
  unfold digL digitB inB
  simp
  omega
theorem valL_lt : ∀ (n : Nat) (l : List UInt8), l.length = n → (∀ b ∈ l, digL b = true) → valL l < 10 ^ n
  | 0, l, hl, _ => by
    obtain rfl := List.length_eq_zero_iff.1 hl
    decide
  | n + 1, l, hl, hd => by
    obtain ⟨u, b, rfl⟩ : ∃ u b, l = u ++ [b] := ⟨l.dropLast, l.getLast (by intro e; simp [e] at hl), (List.dropLast_concat_getLast _).symm⟩
    have hb := (digL_iff b).1 (hd b (by simp))
    have := valL_lt n u (by simpa using hl) (fun c hc => hd c (by simp [hc]))
    rw [valL_snoc, Nat.pow_succ]
    omega
theorem decDigits_head : ∀ (n u : Nat), u ≤ n → 1 ≤ u → ∃ h t, Lib.decDigits u = h :: t ∧ h ≠ 48
  | 0, u, h, h1 => by omega
  | n + 1, u, h, h1 => by
    by_cases h9 : u < 10
    · refine ⟨UInt8.ofNat (48 + u), [], by rw [Lib.decDigits, dif_pos h9], fun e => ?_⟩
      have := congrArg UInt8.toNat e
      simp at this
      omega
    · obtain ⟨a, t, e, ha⟩ := decDigits_head n (u / 10) (by omega) (by omega)
      exact ⟨a, t ++ [UInt8.ofNat (48 + u % 10)], by rw [Lib.decDigits, dif_neg h9, e]; rfl, ha⟩
/-- No zero ahead of others. -/
def noLead : List UInt8 → Bool
  | [] => false
  | [_] => true
  | b :: _ :: _ => b != 48
theorem decDigits_val : ∀ (n : Nat) (l : List UInt8), l.length = n → (∀ b ∈ l, digL b = true) → noLead l = true → Lib.decDigits (valL l) = l
  | 0, l, hl, _, hn => by
    obtain rfl := List.length_eq_zero_iff.1 hl
    cases hn
  | n + 1, l, hl, hd, hn => by
    obtain ⟨u, b, rfl⟩ : ∃ u b, l = u ++ [b] := ⟨l.dropLast, l.getLast (by intro e; simp [e] at hl), (List.dropLast_concat_getLast _).symm⟩
    have hb := (digL_iff b).1 (hd b (by simp))
    rw [valL_snoc]
    cases u with
    | nil =>
      rw [show valL [] = 0 from rfl, Lib.decDigits, dif_pos (by omega)]
      have : UInt8.ofNat (48 + (0 * 10 + (b.toNat - 48))) = b := by
        apply UInt8.toNat_inj.1
        simp
        omega
      rw [this]
      rfl
    | cons a r =>
      have ha : a ≠ 48 := by
        cases r with
        | nil => simpa [noLead] using hn
        | cons c r => simpa [noLead] using hn
      have had := (digL_iff a).1 (hd a (by simp))
      have hnl : noLead (a :: r) = true := by
        cases r with
        | nil => rfl
        | cons c r => simpa [noLead] using ha
      have ih := decDigits_val n (a :: r) (by simpa using hl) (fun c hc => hd c (by simp at hc ⊢; rcases hc with h | h <;> simp [h])) hnl
      have hpos : 1 ≤ valL (a :: r) := by
        apply Decidable.byContradiction
        intro hz
        have h0 : valL (a :: r) = 0 := by omega
        rw [h0, Lib.decDigits, dif_pos (by omega)] at ih
        have : (48 : UInt8) = a := (List.cons.inj ih).1
        exact ha this.symm
      rw [Lib.decDigits, dif_neg (by omega)]
      rw [show (valL (a :: r) * 10 + (b.toNat - 48)) / 10 = valL (a :: r) by omega, show (valL (a :: r) * 10 + (b.toNat - 48)) % 10 = b.toNat - 48 by omega, ih]
      have : UInt8.ofNat (48 + (b.toNat - 48)) = b := by
        apply UInt8.toNat_inj.1
        simp
        omega
      rw [this]
theorem noLead_of_dec {l : List UInt8} (h : Lib.decDigits (valL l) = l) : noLead l = true := by
  match l, h with
  | [], h =>
    rw [show valL [] = 0 from rfl, Lib.decDigits, dif_pos (by omega)] at h
    cases h
  | [_], _ => rfl
  | a :: b :: r, h =>
    by_cases h0 : valL (a :: b :: r) = 0
    · rw [h0, Lib.decDigits, dif_pos (by omega)] at h
      cases h
    · obtain ⟨c, t, e, hc⟩ := decDigits_head _ _ (Nat.le_refl _) (by omega : 1 ≤ valL (a :: b :: r))
      rw [h] at e
      obtain rfl : a = c := (List.cons.inj e).1
      simpa [noLead] using hc

def valB (s : ByteArray) : Int := (valL s.data.toList : Int)
def parseOk (s : ByteArray) : Bool := inB s.size 1 7 && (s.data.toList.all digL && noLead s.data.toList)
def parseM (s : ByteArray) (most : Int) : Int × Bool := if parseOk s = true ∧ valB s ≤ most then (valB s, true) else (0, false)
theorem take_next {s : ByteArray} {i : Nat} {b : UInt8} (hg : s.data.toList[i]? = some b) : s.data.toList.take (i + 1) = s.data.toList.take i ++ [b] := by
  rw [List.take_add_one, hg]
  rfl
theorem all_not {s : ByteArray} {i : Nat} {b : UInt8} (hg : s.data.toList[i]? = some b) (hb : digL b = false) : s.data.toList.all digL = false := by
  rw [List.all_eq_false]
  exact ⟨b, List.mem_of_getElem? hg, by simp [hb]⟩
theorem step_val {s : ByteArray} {i : Nat} {b : UInt8} (hg : s.data.toList[i]? = some b) (hb : digL b = true) (hd : ∀ c ∈ s.data.toList.take i, digL c = true) (hi : i < 8) (hlt : i < s.size) :
    wrap64 (wrap64 ((valL (s.data.toList.take i) : Int) * 10) + (((b.toNat : Int) - 48) % 256)) = (valL (s.data.toList.take (i + 1)) : Int) ∧ ∀ c ∈ s.data.toList.take (i + 1), digL c = true := by
  have hb' := (digL_iff b).1 hb
  have hl : (s.data.toList.take i).length = i := by rw [List.length_take]; simp; omega
  have hv := valL_lt i _ hl hd
  have hp : 10 ^ i ≤ 10 ^ 7 := Nat.pow_le_pow_right (by omega) (by omega)
  have hp7 : 10 ^ 7 = 10000000 := by decide
  rw [take_next hg, valL_snoc]
  refine ⟨?_, fun c hc => ?_⟩
  · rw [wrap64_id (i := (valL (s.data.toList.take i) : Int) * 10) (by omega) (by omega), wrap64_id (by omega) (by omega)]
    omega
  · rcases List.mem_append.1 hc with h | h
    · exact hd c h
    · rw [List.mem_singleton.1 h]; exact hb
theorem noLead_bytes {s : ByteArray} (h1 : 1 ≤ s.size) : noLead s.data.toList = (decide (¬ (s.size : Int) > 1) || decide (¬ bt s 0 = 48)) := by
  obtain ⟨b, hb, hbt, _⟩ := data_drop (s := s) (i := 0) (by omega)
  rw [List.drop_zero] at hb
  have hl : s.data.toList.length = s.size := by simp
  rw [show ((0 : Nat) : Int) = 0 from rfl] at hbt
  rw [hbt]
  cases hr : s.data.toList.drop 1 with
  | nil =>
    rw [hb, hr] at hl ⊢
    simp only [List.length_cons, List.length_nil] at hl
    simp [noLead, show ¬ (s.size : Int) > 1 by omega]
  | cons c r =>
    rw [hb, hr] at hl ⊢
    simp only [List.length_cons] at hl
    simp only [noLead, show (s.size : Int) > 1 by omega, not_true, decide_false, Bool.false_or]
    rw [Bool.eq_iff_iff]
    simp only [bne_iff_ne, ne_eq, decide_eq_true_eq]
    refine ⟨fun h e => h (UInt8.toNat_inj.1 (by simp; omega)), fun h e => h (by rw [e]; rfl)⟩

theorem spec_parse_big (s : ByteArray) (most : Int) (hs : 7 < s.size) (hs2 : s.size ≤ 9223372036854775807) (d : Nat) : ∀ (i : Nat) (n : Int), i + d = 8 → Ev (fun k => spec_ParseNum.l0 k s most n (i : Int)) (0, false) := by
  have hin : inB (s.size : Int) 1 7 = false := by unfold inB; simp; omega
  induction d with
  | zero =>
    intro i n hi
    obtain rfl : i = 8 := by omega
    refine Ev.succ ?_
    by_cases h : ((8 : Nat) : Int) < (s.size : Int)
    · simp only [spec_ParseNum.l0, h, if_true, show decide (((8 : Nat) : Int) < 8) = false from rfl]
      refine Ev.succ ?_
      simp only [spec_ParseNum.j1, Bool.false_eq_true, if_false, in_f, hin, Option.bind_some]
      exact Ev.some
    · simp only [spec_ParseNum.l0, h, if_false]
      refine Ev.succ ?_
      simp only [spec_ParseNum.j1, Bool.false_eq_true, if_false, in_f, hin, Option.bind_some]
      exact Ev.some
  | succ d ih =>
    intro i n hi
    have h1 : (i : Int) < (s.size : Int) := by omega
    have h2 : (0 : Int) ≤ (i : Int) := by omega
    have h3 := next_i (show i < s.size by omega) hs2
    refine Ev.succ ?_
    simp only [spec_ParseNum.l0, h1, if_true, show decide ((i : Int) < 8) = true by simp; omega]
    refine Ev.succ ?_
    simp only [spec_ParseNum.j1, if_true, h1, h2, h3, digit_spec (bt_range s i), Option.bind_some]
    cases hp : digitB (bt s (i : Int)) with
    | true => simpa using ih (i + 1) _ (by omega)
    | false => simpa using Ev.some
theorem spec_parse_l (s : ByteArray) (most : Int) (hs : s.size ≤ 7) (d : Nat) : ∀ (i : Nat), i + d = s.size → (∀ c ∈ s.data.toList.take i, digL c = true) → Ev (fun k => spec_ParseNum.l0 k s most (valL (s.data.toList.take i) : Int) (i : Int)) (parseM s most) := by
  induction d with
  | zero =>
    intro i hi hd
    obtain rfl : i = s.size := by omega
    have ht : s.data.toList.take s.size = s.data.toList := List.take_of_length_le (by simp)
    rw [ht] at hd ⊢
    have hall : s.data.toList.all digL = true := List.all_eq_true.2 hd
    refine Ev.succ ?_
    simp only [spec_ParseNum.l0, show ¬ (s.size : Int) < (s.size : Int) by omega, if_false]
    refine Ev.succ ?_
    simp only [spec_ParseNum.j1, Bool.false_eq_true, if_false, in_f, Option.bind_some]
    unfold parseM parseOk
    rw [hall, Bool.true_and]
    cases hb : inB (s.size : Int) 1 7 with
    | false => simpa using Ev.some
    | true =>
      have h1 : 1 ≤ s.size := by unfold inB at hb; simp at hb; omega
      rw [noLead_bytes h1]
      simp only [if_true, Bool.true_and]
      by_cases hg : (s.size : Int) > 1
      · simp only [hg, if_true, show (0 : Int) < (s.size : Int) by omega, not_true, decide_false, Bool.false_or]
        by_cases hz : bt s 0 = 48
        · simp only [hz, if_true, not_true, decide_false]
          simpa using Ev.some
        · simp only [hz, if_false, not_false_eq_true, decide_true, true_and]
          by_cases hm : (valL s.data.toList : Int) > most
          · simp only [hm, if_true]
            rw [if_neg (by unfold valB; omega)]
            exact Ev.some
          · simp only [hm, if_false]
            rw [if_pos (by unfold valB; omega)]
            exact Ev.some
      · simp only [hg, if_false, not_false_eq_true, decide_true, Bool.true_or, true_and]
        by_cases hm : (valL s.data.toList : Int) > most
        · simp only [hm, if_true]
          rw [if_neg (by unfold valB; omega)]
          exact Ev.some
        · simp only [hm, if_false]
          rw [if_pos (by unfold valB; omega)]
          exact Ev.some
  | succ d ih =>
    intro i hi hd
    have hlt : i < s.size := by omega
    have h1 : (i : Int) < (s.size : Int) := by omega
    have h2 : (0 : Int) ≤ (i : Int) := by omega
    have h3 := next_i hlt (by omega)
    obtain ⟨b, _, hbt, hg⟩ := data_drop hlt
    refine Ev.succ ?_
    simp only [spec_ParseNum.l0, h1, if_true, show decide ((i : Int) < 8) = true by simp; omega]
    refine Ev.succ ?_
    simp only [spec_ParseNum.j1, if_true, h1, h2, h3, digit_spec (bt_range s i), Option.bind_some]
    rw [hbt]
    show Ev (fun k => if digL b = true then _ else _) _
    cases hp : digL b with
    | true =>
      have hst := step_val hg hp hd (by omega) hlt
      simp only [if_true, hst.1]
      exact ih (i + 1) (by omega) hst.2
    | false =>
      simp only [Bool.false_eq_true, if_false]
      unfold parseM parseOk
      rw [all_not hg hp]
      simpa using Ev.some
theorem spec_parse (s : ByteArray) (most : Int) (hs : s.size ≤ 9223372036854775807) : Ev (fun k => spec_ParseNum.f k s most) (parseM s most) := by
  unfold spec_ParseNum.f
  by_cases h7 : s.size ≤ 7
  · exact spec_parse_l s most h7 s.size 0 (by omega) (by simp)
  · have := spec_parse_big s most (by omega) hs 8 0 0 (by omega)
    have hin : inB (s.size : Int) 1 7 = false := by unfold inB; simp; omega
    unfold parseM parseOk
    rw [hin]
    simpa using this
theorem impl_parse_l (s : ByteArray) (most : Int) (hs1 : 1 ≤ s.size) (hs : s.size ≤ 7) (d : Nat) : ∀ (i : Nat), i + d = s.size → (∀ c ∈ s.data.toList.take i, digL c = true) → Ev (fun k => impl_ParseNum.l0 k s most (valL (s.data.toList.take i) : Int) (i : Int)) (parseM s most) := by
  have hin : inB (s.size : Int) 1 7 = true := by unfold inB; simp; omega
  induction d with
  | zero =>
    intro i hi hd
    obtain rfl : i = s.size := by omega
    have ht : s.data.toList.take s.size = s.data.toList := List.take_of_length_le (by simp)
    rw [ht] at hd ⊢
    have hall : s.data.toList.all digL = true := List.all_eq_true.2 hd
    have hv := valL_lt s.size s.data.toList (by simp) hd
    have hp : 10 ^ s.size ≤ 10 ^ 7 := Nat.pow_le_pow_right (by omega) (by omega)
    have hp7 : 10 ^ 7 = 10000000 := by decide
    refine Ev.succ ?_
    simp only [impl_ParseNum.l0, show ¬ (s.size : Int) < (s.size : Int) by omega, if_false]
    simp only [impl_num (valL s.data.toList : Int) (by omega), Option.bind_some, toList_data]
    unfold numB parseM parseOk
    rw [data_ofL, Int.toNat_natCast, hall, hin]
    by_cases hn : noLead s.data.toList = true
    · have he := decDigits_val _ _ rfl hd hn
      simp only [he, if_true, hn, Bool.true_and, true_and]
      by_cases hm : (valL s.data.toList : Int) > most
      · simp only [hm, if_true]
        rw [if_neg (by unfold valB; omega)]
        exact Ev.some
      · simp only [hm, if_false]
        rw [if_pos (by unfold valB; omega)]
        exact Ev.some
    · have he : ¬ Lib.decDigits (valL s.data.toList) = s.data.toList := fun e => hn (noLead_of_dec e)
      simp only [he, if_false, hn, Bool.true_and, false_and]
      exact Ev.some
  | succ d ih =>
    intro i hi hd
    have hlt : i < s.size := by omega
    have h1 : (i : Int) < (s.size : Int) := by omega
    have h2 : (0 : Int) ≤ (i : Int) := by omega
    have h3 := next_i hlt (by omega)
    obtain ⟨b, _, hbt, hg⟩ := data_drop hlt
    refine Ev.succ ?_
    simp only [impl_ParseNum.l0, if_true, h1, h2, h3, digit_impl, Option.bind_some]
    rw [hbt]
    show Ev (fun k => if digL b = true then _ else _) _
    cases hp : digL b with
    | true =>
      have hst := step_val hg hp hd (by omega) hlt
      simp only [if_true, hst.1]
      exact ih (i + 1) (by omega) hst.2
    | false =>
      simp only [Bool.false_eq_true, if_false]
      unfold parseM parseOk
      rw [all_not hg hp]
      simpa using Ev.some
theorem impl_parse (s : ByteArray) (most : Int) : Ev (fun k => impl_ParseNum.f k s most) (parseM s most) := by
  unfold impl_ParseNum.f
  simp only [inRange_f, Option.bind_some]
  cases hb : inB (s.size : Int) 1 7 with
  | false =>
    unfold parseM parseOk
    rw [hb]
    simpa using Ev.some
  | true =>
    have hb' := hb
    unfold inB at hb'
    simp at hb'
    simp only [if_true]
    refine Ev.succ ?_
    simp only [impl_ParseNum.j0]
    exact impl_parse_l s most (by omega) (by omega) s.size 0 (by omega) (by simp)
end Go.Proofs.YtpmooegakomnbabDoor.Pure
/- Texts of digits alone, of the reference and of the program. -/
namespace Go.Proofs.YtpmooegakomnbabDoor.Pure
open Go.RowKit Go.Proofs.YtpmooegakomnbabDoor.PGD Go.Proofs.YtpmooegakomnbabDoorW.PrintWords Go.Proofs.YtpmooegakomnbabDoorW.PrintLast Go.Proofs.YtpmooegakomnbabDoor.Aux

def digitsB (s : ByteArray) : Bool := (bs s).all digitB

theorem spec_digits_l (s : ByteArray) (hs : s.size ≤ 9223372036854775807) (d : Nat) : ∀ i : Nat, i + d = s.size → Ev (fun k => spec_l3Digits.l0 k s (i : Int)) (((bs s).drop i).all digitB) := by
  induction d with
  | zero =>
    intro i hi
    have h1 : ¬ (i : Int) < (s.size : Int) := by omega
    refine Ev.succ ?_
    simp only [spec_l3Digits.l0, h1, if_false, bs_end (show s.size ≤ i by omega), List.all_nil]
    exact Ev.some
  | succ d ih =>
    intro i hi
    have h1 : (i : Int) < (s.size : Int) := by omega
    have h2 : (0 : Int) ≤ (i : Int) := by omega
    have h3 := next_i (show i < s.size by omega) hs
    have ih' := ih (i + 1) (by omega)
    refine Ev.succ ?_
    rw [bs_drop (by omega), List.all_cons]
    simp only [spec_l3Digits.l0, h1, h2, h3, if_true, digit_spec (bt_range s i), Option.bind_some]
    cases hp : digitB (bt s (i : Int)) with
    | true => simpa using ih'
    | false => simpa using Ev.some
theorem spec_digits (s : ByteArray) (hs : s.size ≤ 9223372036854775807) : Ev (fun k => spec_l3Digits.f k s) (digitsB s) := spec_digits_l s hs s.size 0 (by omega)

theorem impl_figures_l (s : ByteArray) (hs : s.size ≤ 9223372036854775807) (d : Nat) : ∀ i : Nat, i + d = s.size → Ev (fun k => impl_isFigures.l0 k s (i : Int)) (((bs s).drop i).all digitB && decide (s.size ≠ 0)) := by
  induction d with
  | zero =>
    intro i hi
    have h1 : ¬ (i : Int) < (s.size : Int) := by omega
    refine Ev.succ ?_
    simp only [impl_isFigures.l0, h1, if_false, bs_end (show s.size ≤ i by omega), List.all_nil, Bool.true_and]
    refine Ev.cast Ev.some ?_
    rw [toList_data]
    by_cases h : s.size = 0
    · have : s.data.toList = [] := by
        apply List.eq_nil_of_length_eq_zero
        simpa using h
      rw [this, h]
      rfl
    · have : s.data.toList ≠ [] := by
        intro e
        apply h
        have := congrArg List.length e
        simpa using this
      simp [h, this]
  | succ d ih =>
    intro i hi
    have h1 : (i : Int) < (s.size : Int) := by omega
    have h2 : (0 : Int) ≤ (i : Int) := by omega
    have h3 := next_i (show i < s.size by omega) hs
    have ih' := ih (i + 1) (by omega)
    refine Ev.succ ?_
    rw [bs_drop (by omega), List.all_cons]
    simp only [impl_isFigures.l0, h1, h2, h3, if_true, digit_impl, Option.bind_some]
    cases hp : digitB (bt s (i : Int)) with
    | true => simpa using ih'
    | false => simpa using Ev.some
theorem impl_figures (s : ByteArray) (hs : s.size ≤ 9223372036854775807) : Ev (fun k => impl_isFigures.f k s) (digitsB s && decide (s.size ≠ 0)) := impl_figures_l s hs s.size 0 (by omega)


end Go.Proofs.YtpmooegakomnbabDoor.Pure
/- What VerOk comes to, of the reference and of the program. -/
namespace Go.Proofs.YtpmooegakomnbabDoor.Pure
open Go.RowKit Go.Proofs.YtpmooegakomnbabDoor.PGD Go.Proofs.YtpmooegakomnbabDoorW.PrintWords Go.Proofs.YtpmooegakomnbabDoorW.PrintLast Go.Proofs.YtpmooegakomnbabDoor.Aux

def preC (x : Int) : Bool := smallB x || upperB x || digitB x || decide (x = 45)
def preEnd (s : ByteArray) : Bool := inB s.size 1 8 && (!digitsB s || decide (s.size = 1) || decide (bt s 0 ≠ 48))
def preB (s : ByteArray) : Bool := (bs s).all preC && preEnd s

theorem spec_part_l (s : ByteArray) (hs : s.size ≤ 9223372036854775807) (d : Nat) : ∀ i : Nat, i + d = s.size → Ev (fun k => spec_l3Part.l0 k s (i : Int)) (((bs s).drop i).all preC && preEnd s) := by
  induction d with
  | zero =>
    intro i hi
    have h1 : ¬ (i : Int) < (s.size : Int) := by omega
    refine Ev.succ ?_
    simp only [spec_l3Part.l0, h1, if_false, bs_end (show s.size ≤ i by omega), List.all_nil, Bool.true_and, in_f, Option.bind_some, preEnd]
    cases hb : inB (s.size : Int) 1 8 with
    | false => simpa using Ev.some
    | true =>
      simp only [if_true, Bool.true_and]
      refine Ev.bind (spec_digits s hs) ?_
      cases hd : digitsB s with
      | false => simpa using Ev.some
      | true =>
        have hpos : (0 : Int) < (s.size : Int) := by simp [inB] at hb; omega
        simp only [if_true, hpos, Bool.not_true, Bool.false_or]
        by_cases he : (s.size : Int) = 1
        · simp only [he, if_true]
          refine Ev.cast Ev.some ?_
          simp [show s.size = 1 by omega]
        · simp only [he, if_false]
          refine Ev.cast Ev.some ?_
          simp only [show ¬ s.size = 1 by omega, decide_false, Bool.false_or]
          by_cases h0 : bt s 0 = 48 <;> simp [h0]
  | succ d ih =>
    intro i hi
    have h1 : (i : Int) < (s.size : Int) := by omega
    have h2 : (0 : Int) ≤ (i : Int) := by omega
    have h3 := next_i (show i < s.size by omega) hs
    have ih' := ih (i + 1) (by omega)
    have hr := bt_range s i
    refine Ev.succ ?_
    rw [bs_drop (by omega), List.all_cons]
    simp only [spec_l3Part.l0, h1, if_true]
    refine Ev.succ ?_
    simp only [spec_l3Part.j1, h1, h2, h3, if_true, digit_spec hr, small_spec hr, wrap64_id (show -9223372036854775808 ≤ bt s (i : Int) by omega) (show bt s (i : Int) ≤ 9223372036854775807 by omega), in_f, Option.bind_some, preC]
    cases hp : digitB (bt s (i : Int)) with
    | true => simpa using ih'
    | false =>
      cases hq : smallB (bt s (i : Int)) with
      | true => simpa using ih'
      | false =>
        cases hu : inB (bt s (i : Int)) 65 90 with
        | true => simpa [upperB, hu] using ih'
        | false =>
          by_cases he : bt s (i : Int) = 45
          · simpa [he] using ih'
          · simpa [upperB, hu, he] using Ev.some
theorem spec_part (s : ByteArray) (hs : s.size ≤ 9223372036854775807) : Ev (fun k => spec_l3Part.f k s) (preB s) := spec_part_l s hs s.size 0 (by omega)

theorem one_zero (s : ByteArray) : s.toList = ([48] : List UInt8) ↔ (s.size = 1 ∧ bt s 0 = 48) := by
  rw [toList_data]
  constructor
  · intro h
    have hl : s.size = 1 := by
      have := congrArg List.length h
      simpa using this
    refine ⟨hl, ?_⟩
    rw [bt_bs]
    unfold bs
    rw [h]
    rfl
  · rintro ⟨h1, h2⟩
    rw [bt_bs] at h2
    have hb : bs s = [48] := by
      have hl := bs_length s
      rw [h1] at hl
      match hq : bs s, hl with
      | [x], _ =>
        rw [hq] at h2
        simp at h2
        rw [h2]
    unfold bs at hb
    match hq : s.data.toList with
    | [] => rw [hq] at hb; cases hb
    | [x] =>
      rw [hq] at hb
      simp at hb
      have : x = 48 := by
        apply UInt8.toNat_inj.1
        simp
        omega
      rw [this]
    | x :: y :: r => rw [hq] at hb; simp at hb

theorem impl_pre_l (s : ByteArray) (hs : s.size ≤ 9223372036854775807) (d : Nat) : ∀ i : Nat, i + d = s.size → Ev (fun k => impl_preOk.l0 k s (i : Int)) (((bs s).drop i).all preC && preEnd s) := by
  induction d with
  | zero =>
    intro i hi
    have h1 : ¬ (i : Int) < (s.size : Int) := by omega
    refine Ev.succ ?_
    simp only [impl_preOk.l0, h1, if_false, bs_end (show s.size ≤ i by omega), List.all_nil, Bool.true_and, inRange_f, Option.bind_some, preEnd]
    cases hb : inB (s.size : Int) 1 8 with
    | false => simpa using Ev.some
    | true =>
      simp only [if_true, Bool.true_and]
      have hpos : (0 : Int) < (s.size : Int) := by simp [inB] at hb; omega
      refine Ev.bind (impl_figures s hs) ?_
      simp only [show s.size ≠ 0 by omega, ne_eq, not_false_eq_true, decide_true, Bool.and_true]
      cases hd : digitsB s with
      | false => simpa using Ev.some
      | true =>
        simp only [if_true, hpos, Bool.not_true, Bool.false_or, one_zero]
        by_cases he : s.size = 1
        · by_cases h0 : bt s 0 = 48
          · simp only [he, h0, and_self, if_true]
            exact Ev.some
          · simp only [he, h0, and_false, if_false]
            refine Ev.cast Ev.some ?_
            simp [h0]
        · simp only [he, false_and, if_false]
          refine Ev.cast Ev.some ?_
          simp only [decide_false, Bool.false_or]
          by_cases h0 : bt s 0 = 48 <;> simp [h0]
  | succ d ih =>
    intro i hi
    have h1 : (i : Int) < (s.size : Int) := by omega
    have h2 : (0 : Int) ≤ (i : Int) := by omega
    have h3 := next_i (show i < s.size by omega) hs
    have ih' := ih (i + 1) (by omega)
    have hr := bt_range s i
    refine Ev.succ ?_
    rw [bs_drop (by omega), List.all_cons]
    simp only [impl_preOk.l0, h1, if_true]
    refine Ev.succ ?_
    simp only [impl_preOk.j1, h1, h2, h3, if_true, digit_impl, small_impl, Option.bind_some, preC, upperB, inB, ge_iff_le]
    cases hq : smallB (bt s (i : Int)) with
    | true => simpa using ih'
    | false =>
      by_cases ha : 65 ≤ bt s (i : Int)
      · by_cases hb : bt s (i : Int) ≤ 90
        · simpa [ha, hb] using ih'
        · cases hp : digitB (bt s (i : Int)) with
          | true => simpa [ha, hb] using ih'
          | false =>
            by_cases he : bt s (i : Int) = 45
            · simp [he] at ha
            · simpa [ha, hb, he] using Ev.some
      · cases hp : digitB (bt s (i : Int)) with
        | true => simpa [ha] using ih'
        | false =>
          by_cases he : bt s (i : Int) = 45
          · simpa [he] using ih'
          · simpa [ha, he] using Ev.some
theorem impl_pre (s : ByteArray) (hs : s.size ≤ 9223372036854775807) : Ev (fun k => impl_preOk.f k s) (preB s) := impl_pre_l s hs s.size 0 (by omega)

def verEnd (a b c : Int) (l : List ByteArray) : Bool := inB a 0 9999 && (inB b 0 9999 && (inB c 0 9999 && decide ((l.length : Int) ≤ 3)))
def verB (a b c : Int) (l : List ByteArray) : Bool := l.all preB && verEnd a b c l

theorem spec_ver_l (a b c : Int) (l : List ByteArray) (hl : l.length ≤ 9223372036854775807) (hs : ∀ x ∈ l, x.size ≤ 9223372036854775807) (d : Nat) : ∀ i : Nat, i + d = l.length → Ev (fun k => spec_VerOk.l0 k (i : Int) a b c l) ((l.drop i).all preB && verEnd a b c l) := by
  induction d with
  | zero =>
    intro i hi
    have h1 : ¬ (i : Int) < (l.length : Int) := by omega
    refine Ev.succ ?_
    rw [List.drop_eq_nil_of_le (by omega)]
    simp only [spec_VerOk.l0, h1, if_false, List.all_nil, Bool.true_and, in_f, Option.bind_some, verEnd]
    cases inB a 0 9999 <;> cases inB b 0 9999 <;> cases inB c 0 9999 <;> simpa using Ev.some
  | succ d ih =>
    intro i hi
    have hlt : i < l.length := by omega
    have h1 : (i : Int) < (l.length : Int) := by omega
    have h2 : (0 : Int) ≤ (i : Int) := by omega
    have h3 := next_i hlt hl
    have ih' := ih (i + 1) (by omega)
    refine Ev.succ ?_
    rw [drop_get hlt, List.all_cons]
    simp only [spec_VerOk.l0, h1, h2, h3, if_true, rdOf_cast _ hlt]
    refine Ev.bind (spec_part l[i] (hs _ (List.getElem_mem hlt))) ?_
    cases hp : preB l[i] with
    | true => simpa using ih'
    | false => simpa using Ev.some
theorem spec_ver (a b c : Int) (l : List ByteArray) (hl : l.length ≤ 9223372036854775807) (hs : ∀ x ∈ l, x.size ≤ 9223372036854775807) : Ev (fun k => spec_VerOk.f k a b c l) (verB a b c l) := spec_ver_l a b c l hl hs l.length 0 (by omega)

theorem impl_ver_l (a b c : Int) (l : List ByteArray) (hl : l.length ≤ 9223372036854775807) (hs : ∀ x ∈ l, x.size ≤ 9223372036854775807) (d : Nat) : ∀ i : Nat, i + d = l.length → Ev (fun k => impl_VerOk.l0 k l (l.length : Int) (i : Int) a b c l) ((l.drop i).all preB && verEnd a b c l) := by
  induction d with
  | zero =>
    intro i hi
    have h1 : ¬ (i : Int) < (l.length : Int) := by omega
    refine Ev.succ ?_
    rw [List.drop_eq_nil_of_le (by omega)]
    simp only [impl_VerOk.l0, h1, if_false, List.all_nil, Bool.true_and, inRange_f, Option.bind_some, verEnd]
    cases inB a 0 9999 <;> cases inB b 0 9999 <;> cases inB c 0 9999 <;> simpa using Ev.some
  | succ d ih =>
    intro i hi
    have hlt : i < l.length := by omega
    have h1 : (i : Int) < (l.length : Int) := by omega
    have h2 : (0 : Int) ≤ (i : Int) := by omega
    have h3 := next_i hlt hl
    have ih' := ih (i + 1) (by omega)
    refine Ev.succ ?_
    rw [drop_get hlt, List.all_cons]
    simp only [impl_VerOk.l0, h1, h2, h3, if_true, rdOf_cast _ hlt]
    refine Ev.bind (impl_pre l[i] (hs _ (List.getElem_mem hlt))) ?_
    cases hp : preB l[i] with
    | true => simpa using ih'
    | false => simpa using Ev.some
theorem impl_ver (a b c : Int) (l : List ByteArray) (hl : l.length ≤ 9223372036854775807) (hs : ∀ x ∈ l, x.size ≤ 9223372036854775807) : Ev (fun k => impl_VerOk.f k a b c l) (verB a b c l) := impl_ver_l a b c l hl hs l.length 0 (by omega)

end Go.Proofs.YtpmooegakomnbabDoor.Pure
/- What VerText comes to, of the reference and of the program. -/
namespace Go.Proofs.YtpmooegakomnbabDoor.Pure
open Go.RowKit Go.Proofs.YtpmooegakomnbabDoor.PGD Go.Proofs.YtpmooegakomnbabDoorW.PrintWords Go.Proofs.YtpmooegakomnbabDoorW.PrintLast Go.Proofs.YtpmooegakomnbabDoor.Aux

theorem decDigits_length : ∀ (m u : Nat), u < 10 ^ (m + 1) → (Lib.decDigits u).length ≤ m + 1
  | 0, u, h => by
    rw [Lib.decDigits, dif_pos (by simpa using h)]
    simp
  | m + 1, u, h => by
    by_cases h9 : u < 10
    · rw [Lib.decDigits, dif_pos h9]
      simp
    · have := decDigits_length m (u / 10) (by rw [Nat.pow_succ] at h; omega)
      rw [Lib.decDigits, dif_neg h9, List.length_append]
      simp only [List.length_cons, List.length_nil]
      omega
theorem numB_size {x : Int} (h : x ≤ 9223372036854775807) : (numB x).size ≤ 19 := by
  unfold numB
  rw [ofL_size]
  exact decDigits_length 18 _ (by omega)
def dot : ByteArray := ⟨#[46]⟩
def dash : ByteArray := ⟨#[45]⟩
theorem dot_size : (⟨#[46]⟩ : ByteArray).size = 1 := rfl
theorem dash_size : (⟨#[45]⟩ : ByteArray).size = 1 := rfl
theorem app_assoc (a b c : ByteArray) : a ++ b ++ c = a ++ (b ++ c) := by
  rw [← ofL_data (a ++ b ++ c), ← ofL_data (a ++ (b ++ c))]
  simp
def verCore (a b c : Int) : ByteArray := numB a ++ dot ++ numB b ++ dot ++ numB c
def verT (a b c : Int) (l : List ByteArray) : ByteArray := if verB a b c l = true then (if (l.length : Int) > 0 then verCore a b c ++ (dash ++ joinB l dot) else verCore a b c) else ⟨#[]⟩
theorem ver_parts {a b c : Int} {l : List ByteArray} (h : verB a b c l = true) : 0 ≤ a ∧ a ≤ 9999 ∧ 0 ≤ b ∧ b ≤ 9999 ∧ 0 ≤ c ∧ c ≤ 9999 ∧ l.length ≤ 3 := by
  unfold verB verEnd inB at h
  simp at h
  omega
theorem impl_vertext (a b c : Int) (l : List ByteArray) (hl : l.length ≤ 9223372036854775807) (hs : ∀ x ∈ l, x.size ≤ 9223372036854775807) (hN : joinN l dot ≤ 2199023255552) : Ev (fun k => impl_VerText.f k a b c l) (verT a b c l) := by
  unfold impl_VerText.f verT
  refine Ev.bind (impl_ver a b c l hl hs) ?_
  cases hv : verB a b c l with
  | false => simpa using Ev.some
  | true =>
    obtain ⟨a0, a1, b0, b1, c0, c1, l3⟩ := ver_parts hv
    have na := numB_size (x := a) (by omega)
    have nb := numB_size (x := b) (by omega)
    have nc := numB_size (x := c) (by omega)
    have hj := joinB_size l dot
    simp only [if_true]
    refine Ev.succ ?_
    simp only [impl_VerText.j0, impl_num a (show a ≤ 9223372036854775807 by omega), impl_num b (show b ≤ 9223372036854775807 by omega), impl_num c (show c ≤ 9223372036854775807 by omega), Option.bind_some]
    refine Ev.yes (by omega) ?_
    refine Ev.yes (by simp only [ByteArray.size_append, dot_size]; omega) ?_
    refine Ev.yes (by simp only [ByteArray.size_append, dot_size]; omega) ?_
    refine Ev.yes (by simp only [ByteArray.size_append, dot_size]; omega) ?_
    by_cases hp : (l.length : Int) > 0
    · have hsj : strings_Join.f l (⟨#[46]⟩ : ByteArray) = some (joinB l dot) := strings_join l dot (by omega) (by omega)
      simp only [hp, if_true, hsj, Option.bind_some]
      refine Ev.yes (by omega) ?_
      refine Ev.yes (by simp only [ByteArray.size_append, dot_size, dash_size]; omega) ?_
      exact Ev.some
    · simp only [hp, if_false]
      exact Ev.some
end Go.Proofs.YtpmooegakomnbabDoor.Pure
/- What ParseVer comes to, of the reference and of the program. -/
namespace Go.Proofs.YtpmooegakomnbabDoor.Pure
open Go.RowKit Go.Proofs.YtpmooegakomnbabDoor.PGD Go.Proofs.YtpmooegakomnbabDoorW.PrintWords Go.Proofs.YtpmooegakomnbabDoorW.PrintLast Go.Proofs.YtpmooegakomnbabDoor.Aux

abbrev VerR := Int × Int × Int × List ByteArray × Bool
def noVer : VerR := (0, 0, 0, [], false)
/-- What is read of the numbers' three pieces and of what stands behind the dash. -/
def readV (p0 p1 p2 : ByteArray) (q : List ByteArray) : VerR :=
  if (parseM p0 9999).2 = true ∧ (parseM p1 9999).2 = true ∧ (parseM p2 9999).2 = true ∧ verB (parseM p0 9999).1 (parseM p1 9999).1 (parseM p2 9999).1 q = true
  then ((parseM p0 9999).1, (parseM p1 9999).1, (parseM p2 9999).1, q, true) else noVer
def preQ (s : ByteArray) : List ByteArray := if hasB 45 s = true then piecesB (tailB 45 s) dot else []
def numQ (s : ByteArray) : List ByteArray := piecesB (headB 45 s) dot
def parseV (s : ByteArray) : VerR := if (numQ s).length = 3 then readV (rdOf ByteArray.empty (numQ s) 0) (rdOf ByteArray.empty (numQ s) 1) (rdOf ByteArray.empty (numQ s) 2) (preQ s) else noVer

theorem preQ_length (s : ByteArray) : (preQ s).length ≤ s.size + 1 := by
  unfold preQ
  split
  · have h1 := pieces_length (s := tailB 45 s) (sep := dot) (by decide)
    have h2 := tailB_size 45 s
    omega
  · simp
theorem preQ_mem (s : ByteArray) : ∀ x ∈ preQ s, x.size ≤ s.size := by
  unfold preQ
  split
  · intro x hx
    have h1 := pieces_mem (s := tailB 45 s) (sep := dot) (by simp [dot]) x hx
    have h2 := tailB_size 45 s
    omega
  · intro x hx
    cases hx
theorem numQ_mem (s : ByteArray) : ∀ x ∈ numQ s, x.size ≤ s.size := by
  intro x hx
  have h1 := pieces_mem (s := headB 45 s) (sep := dot) (by simp [dot]) x hx
  have h2 := headB_size 45 s
  omega
theorem rd_mem {l : List ByteArray} {i : Nat} (h : i < l.length) : rdOf ByteArray.empty l (i : Int) ∈ l := by
  rw [rdOf_cast _ h]
  exact List.getElem_mem h

theorem spec_pv_nums (k0 : Nat) (p0 p1 p2 : ByteArray) (q : List ByteArray) (h0 : p0.size ≤ 16777216) (h1 : p1.size ≤ 16777216) (h2 : p2.size ≤ 16777216) (hq : q.length ≤ 16777217) (hqs : ∀ x ∈ q, x.size ≤ 16777216) (a b c : Int) :
    Ev (fun k => spec_ParseVer.j3 k [p0, p1, p2] a b c q) (readV p0 p1 p2 q) := by
  refine Ev.succ ?_
  simp only [spec_ParseVer.j3, List.length_cons, List.length_nil, show (0 : Int) < ((0 + 1 + 1 + 1 : Nat) : Int) by omega, show (1 : Int) < ((0 + 1 + 1 + 1 : Nat) : Int) by omega, show (2 : Int) < ((0 + 1 + 1 + 1 : Nat) : Int) by omega, if_true,
    show rdOf ByteArray.empty [p0, p1, p2] 0 = p0 from rfl, show rdOf ByteArray.empty [p0, p1, p2] 1 = p1 from rfl, show rdOf ByteArray.empty [p0, p1, p2] 2 = p2 from rfl]
  refine Ev.bind (spec_parse p0 9999 (by omega)) (Ev.bind (spec_parse p1 9999 (by omega)) (Ev.bind (spec_parse p2 9999 (by omega)) ?_))
  unfold readV
  by_cases e0 : (parseM p0 9999).2 = true
  · by_cases e1 : (parseM p1 9999).2 = true
    · by_cases e2 : (parseM p2 9999).2 = true
      · simp only [e0, e1, e2, if_true, true_and]
        refine Ev.bind (spec_ver _ _ _ q (by omega) (fun x hx => by have := hqs x hx; omega)) ?_
        cases hv : verB (parseM p0 9999).1 (parseM p1 9999).1 (parseM p2 9999).1 q with
        | true =>
          simp only [if_true]
          exact Ev.some
        | false =>
          simp only [Bool.false_eq_true, if_false]
          exact Ev.some
      · simp only [e0, e1, e2, if_true, if_false, true_and, false_and, Bool.false_eq_true]
        exact Ev.some
    · simp only [e0, e1, if_true, if_false, true_and, false_and, Bool.false_eq_true]
      exact Ev.some
  · simp only [e0, if_false, false_and, Bool.false_eq_true]
    exact Ev.some
theorem three {l : List ByteArray} (h : l.length = 3) : l = [rdOf ByteArray.empty l 0, rdOf ByteArray.empty l 1, rdOf ByteArray.empty l 2] := by
  match l, h with
  | [a, b, c], _ => rfl
theorem spec_pv_j2 (s : ByteArray) (hs : s.size ≤ 16777216) (a b c : Int) (q : List ByteArray) (hq : q = preQ s) : Ev (fun k => spec_ParseVer.j2 k s (at1 45 s.data.toList : Int) a b c q) (parseV s) := by
  have hle := at1_le 45 s.data.toList
  have hsl : s.data.toList.length = s.size := by simp
  have hx : s.extract 0 (at1 45 s.data.toList) = headB 45 s := by rw [extract_ofL, List.drop_zero, Nat.sub_zero]; rfl
  have hh := headB_size 45 s
  refine Ev.succ ?_
  simp only [spec_ParseVer.j2, show (0 : Int) ≤ (at1 45 s.data.toList : Int) by omega, show (at1 45 s.data.toList : Int) ≤ (s.size : Int) by omega, if_true, Int.toNat_natCast, hx]
  refine Ev.bind (spec_split (headB 45 s) 46 (by omega)) ?_
  show Ev (fun k => if ((numQ s).length : Int) = 3 then _ else _) _
  unfold parseV
  by_cases h3 : (numQ s).length = 3
  · refine Ev.yes (by omega) ?_
    rw [if_pos h3, hq]
    have hm : ∀ i : Nat, i < 3 → (rdOf ByteArray.empty (numQ s) (i : Int)).size ≤ 16777216 := fun i hi => by
      have := numQ_mem s _ (rd_mem (l := numQ s) (i := i) (by omega))
      omega
    have := spec_pv_nums 0 (rdOf ByteArray.empty (numQ s) 0) (rdOf ByteArray.empty (numQ s) 1) (rdOf ByteArray.empty (numQ s) 2) (preQ s) (hm 0 (by omega)) (hm 1 (by omega)) (hm 2 (by omega))
      (by have := preQ_length s; omega) (fun x hx => by have := preQ_mem s x hx; omega) a b c
    rw [← three h3] at this
    exact this
  · refine Ev.no (by omega) ?_
    rw [if_neg h3]
    exact Ev.some
theorem spec_pv_j1 (s : ByteArray) (hs : s.size ≤ 16777216) (a b c : Int) : Ev (fun k => spec_ParseVer.j1 k s (at1 45 s.data.toList : Int) a b c) (parseV s) := by
  have hsl : s.data.toList.length = s.size := by simp
  have ht := tailB_size 45 s
  refine Ev.succ ?_
  simp only [spec_ParseVer.j1]
  by_cases h : at1 45 s.data.toList < s.data.toList.length
  · have hx : s.extract (at1 45 s.data.toList + 1) s.size = tailB 45 s := by
      rw [extract_ofL, List.take_of_length_le (by rw [List.length_drop]; omega)]
      rfl
    rw [next_i (show at1 45 s.data.toList < s.size by omega) (by omega)]
    refine Ev.yes (by omega) (Ev.yes (by omega) (Ev.yes (by omega) ?_))
    rw [Int.toNat_natCast, hx]
    refine Ev.bind (spec_split (tailB 45 s) 46 (by omega)) ?_
    refine spec_pv_j2 s hs a b c _ ?_
    unfold preQ
    rw [if_pos (by simpa [hasB] using h)]
    rfl
  · refine Ev.no (by omega) ?_
    refine spec_pv_j2 s hs a b c _ ?_
    unfold preQ
    rw [if_neg (by simpa [hasB] using h)]
theorem spec_pv_l (s : ByteArray) (hs : s.size ≤ 16777216) (a b c : Int) (d : Nat) : ∀ i : Nat, i + d = s.size → at1 45 s.data.toList = i + at1 45 (s.data.toList.drop i) → Ev (fun k => spec_ParseVer.l0 k s (i : Int) a b c) (parseV s) := by
  have hj := spec_pv_j1 s hs a b c
  induction d with
  | zero =>
    intro i hi he
    obtain rfl : i = s.size := by omega
    have hd : s.data.toList.drop s.size = [] := List.drop_eq_nil_of_le (by simp)
    rw [hd, at1_nil] at he
    rw [he] at hj
    refine Ev.succ ?_
    simp only [spec_ParseVer.l0, show ¬ (s.size : Int) < (s.size : Int) by omega, if_false]
    simpa using hj
  | succ d ih =>
    intro i hi he
    have hlt : i < s.size := by omega
    have h3 := next_i hlt (by omega)
    obtain ⟨b, hb, hbt, _⟩ := data_drop hlt
    refine Ev.succ ?_
    simp only [spec_ParseVer.l0, show (i : Int) < (s.size : Int) by omega, show (0 : Int) ≤ (i : Int) by omega, if_true, h3, hbt]
    rw [hb] at he
    by_cases e : b = 45
    · subst e
      rw [at1_hit, Nat.add_zero] at he
      rw [he] at hj
      refine Ev.yes rfl ?_
      exact hj
    · rw [at1_miss e] at he
      refine Ev.no (fun h => e (UInt8.toNat_inj.1 (by rw [show (45 : UInt8).toNat = 45 from rfl]; omega))) ?_
      exact ih (i + 1) (by omega) (by omega)
theorem spec_pv (s : ByteArray) (hs : s.size ≤ 16777216) : Ev (fun k => spec_ParseVer.f k s) (parseV s) := by
  unfold spec_ParseVer.f
  exact spec_pv_l s hs 0 0 0 s.size 0 (by omega) (by simp)

theorem numB_val {p : ByteArray} (h : (parseM p 9999).2 = true) : numB (parseM p 9999).1 = p := by
  unfold parseM at h ⊢
  split at h
  next hc =>
    rw [if_pos hc]
    have hp := hc.1
    unfold parseOk at hp
    simp only [Bool.and_eq_true, List.all_eq_true] at hp
    show numB (valB p) = p
    unfold numB valB
    rw [Int.toNat_natCast, decDigits_val _ _ rfl hp.2.1 hp.2.2, ofL_data]
  next => cases h
theorem join_three (p0 p1 p2 : ByteArray) : joinB [p0, p1, p2] dot = p0 ++ dot ++ p1 ++ dot ++ p2 := by
  rw [← ofL_data (p0 ++ dot ++ p1 ++ dot ++ p2)]
  unfold joinB dats dot
  simp [Lib.join_cons, Lib.joinTail]
/-- The text of what is read is the text. -/
theorem vert_back (s : ByteArray) (h3 : (numQ s).length = 3)
    (e0 : (parseM (rdOf ByteArray.empty (numQ s) 0) 9999).2 = true) (e1 : (parseM (rdOf ByteArray.empty (numQ s) 1) 9999).2 = true) (e2 : (parseM (rdOf ByteArray.empty (numQ s) 2) 9999).2 = true) (b : Bool)
    (hv : verB (parseM (rdOf ByteArray.empty (numQ s) 0) 9999).1 (parseM (rdOf ByteArray.empty (numQ s) 1) 9999).1 (parseM (rdOf ByteArray.empty (numQ s) 2) 9999).1 (preQ s) = b) :
    verT (parseM (rdOf ByteArray.empty (numQ s) 0) 9999).1 (parseM (rdOf ByteArray.empty (numQ s) 1) 9999).1 (parseM (rdOf ByteArray.empty (numQ s) 2) 9999).1 (preQ s) = if b = true then s else ⟨#[]⟩ := by
  unfold verT
  rw [hv]
  cases b with
  | false => rfl
  | true =>
    rw [if_pos rfl, if_pos rfl]
    have hc : verCore (parseM (rdOf ByteArray.empty (numQ s) 0) 9999).1 (parseM (rdOf ByteArray.empty (numQ s) 1) 9999).1 (parseM (rdOf ByteArray.empty (numQ s) 2) 9999).1 = headB 45 s := by
      unfold verCore
      rw [numB_val e0, numB_val e1, numB_val e2, ← join_three, ← three h3]
      exact joinB_pieces _ 46
    rw [hc]
    unfold preQ
    cases hb : hasB 45 s with
    | true =>
      rw [if_pos rfl, if_pos (by have := List.length_pos_iff.2 (pieces_ne (tailB 45 s) dot); omega)]
      rw [show joinB (piecesB (tailB 45 s) dot) dot = tailB 45 s from joinB_pieces _ 46]
      exact head_has hb
    | false =>
      rw [if_neg (by simp)]
      exact head_not hb
theorem joinN_preQ (s : ByteArray) : joinN (preQ s) dot ≤ s.size + 1 := by
  unfold preQ
  split
  · rw [show joinN (piecesB (tailB 45 s) dot) dot = (tailB 45 s).size + 1 from joinN_pieces _ 46]
    have := tailB_size 45 s
    omega
  · unfold joinN
    simp [dats, Lib.lens]
theorem impl_pv_fin (s : ByteArray) (hs : s.size ≤ 16777216) (h3 : (numQ s).length = 3)
    (e0 : (parseM (rdOf ByteArray.empty (numQ s) 0) 9999).2 = true) (e1 : (parseM (rdOf ByteArray.empty (numQ s) 1) 9999).2 = true) (e2 : (parseM (rdOf ByteArray.empty (numQ s) 2) 9999).2 = true)
    (pre : ByteArray) (hp : hasB 45 s = true → pre = tailB 45 s) :
    Ev (fun k => impl_ParseVer.fin k s pre (hasB 45 s) (parseM (rdOf ByteArray.empty (numQ s) 0) 9999).1 (parseM (rdOf ByteArray.empty (numQ s) 1) 9999).1 (parseM (rdOf ByteArray.empty (numQ s) 2) 9999).1)
      (readV (rdOf ByteArray.empty (numQ s) 0) (rdOf ByteArray.empty (numQ s) 1) (rdOf ByteArray.empty (numQ s) 2) (preQ s)) := by
  have hl := preQ_length s
  have hm := preQ_mem s
  have hN := joinN_preQ s
  have hne : ¬ (ByteArray.mk #[]).toList = s.toList := by
    intro e
    have h1 := pieces_length (s := headB 45 s) (sep := dot) (by decide)
    have h2 := headB_size 45 s
    have h4 : (piecesB (headB 45 s) dot).length = 3 := h3
    rw [toList_data, toList_data] at e
    have h5 : s.data.toList.length = s.size := by simp
    rw [← e] at h5
    simp at h5
    omega
  have main : Ev (fun k => (impl_VerText.f k (parseM (rdOf ByteArray.empty (numQ s) 0) 9999).1 (parseM (rdOf ByteArray.empty (numQ s) 1) 9999).1 (parseM (rdOf ByteArray.empty (numQ s) 2) 9999).1 (preQ s)).bind fun t =>
      if t.toList = s.toList then some ((parseM (rdOf ByteArray.empty (numQ s) 0) 9999).1, (parseM (rdOf ByteArray.empty (numQ s) 1) 9999).1, (parseM (rdOf ByteArray.empty (numQ s) 2) 9999).1, preQ s, true) else some impl_ParseVer.no)
      (readV (rdOf ByteArray.empty (numQ s) 0) (rdOf ByteArray.empty (numQ s) 1) (rdOf ByteArray.empty (numQ s) 2) (preQ s)) := by
    refine Ev.bind (impl_vertext _ _ _ _ (by omega) (fun x hx => by have := hm x hx; omega) (by omega)) ?_
    unfold readV
    rw [vert_back s h3 e0 e1 e2 _ rfl]
    simp only [e0, e1, e2, true_and]
    cases hv : verB (parseM (rdOf ByteArray.empty (numQ s) 0) 9999).1 (parseM (rdOf ByteArray.empty (numQ s) 1) 9999).1 (parseM (rdOf ByteArray.empty (numQ s) 2) 9999).1 (preQ s) with
    | true =>
      simp only [if_true]
      exact Ev.some
    | false =>
      simp only [Bool.false_eq_true, if_false, hne]
      exact Ev.some
  unfold impl_ParseVer.fin
  cases hb : hasB 45 s with
  | true =>
    have hq : strings_Split.f pre (⟨#[46]⟩ : ByteArray) = some (preQ s) := by
      rw [hp hb, strings_split _ 46 (by have := tailB_size 45 s; omega)]
      unfold preQ
      rw [if_pos hb]
      rfl
    simp only [if_true, hq, Option.bind_some]
    exact main
  | false =>
    have hq : preQ s = [] := by unfold preQ; rw [hb]; rfl
    rw [hq] at main
    simp only [Bool.false_eq_true, if_false]
    rw [hq]
    exact main
theorem impl_pv (s : ByteArray) (hs : s.size ≤ 16777216) : Ev (fun k => impl_ParseVer.f k s) (parseV s) := by
  have hcut : ∃ pre : ByteArray, strings_Cut.f s (⟨#[45]⟩ : ByteArray) = some (headB 45 s, pre, hasB 45 s) ∧ (hasB 45 s = true → pre = tailB 45 s) := by
    unfold strings_Cut.f
    rw [if_pos (by omega), show (⟨#[45]⟩ : ByteArray).data.toList = [45] from rfl, cut_one]
    cases hb : hasB 45 s with
    | true =>
      refine ⟨tailB 45 s, ?_, fun _ => rfl⟩
      rw [if_pos rfl]
      try exact congrArg some (Prod.ext (ofL_data _) (Prod.ext (ofL_data _) rfl))
    | false =>
      refine ⟨ByteArray.mk #[], ?_, fun h => by cases h⟩
      rw [if_neg (by simp), head_not hb]
      try exact congrArg some (Prod.ext (ofL_data _) (Prod.ext rfl rfl))
  obtain ⟨pre, hcut, hp⟩ := hcut
  have hsp : strings_Split.f (headB 45 s) (⟨#[46]⟩ : ByteArray) = some (numQ s) := strings_split _ 46 (by have := headB_size 45 s; omega)
  unfold impl_ParseVer.f parseV
  simp only [hcut, hsp, Option.bind_some]
  by_cases h3 : (numQ s).length = 3
  · simp only [h3, if_true]
    unfold impl_ParseVer.n3
    refine Ev.bind (impl_parse _ _) ?_
    by_cases e0 : (parseM (rdOf ByteArray.empty (numQ s) 0) 9999).2 = true
    · simp only [e0, if_true]
      unfold impl_ParseVer.n2
      refine Ev.bind (impl_parse _ _) ?_
      by_cases e1 : (parseM (rdOf ByteArray.empty (numQ s) 1) 9999).2 = true
      · simp only [e1, if_true]
        unfold impl_ParseVer.n1
        refine Ev.bind (impl_parse _ _) ?_
        by_cases e2 : (parseM (rdOf ByteArray.empty (numQ s) 2) 9999).2 = true
        · simp only [e2, if_true]
          exact impl_pv_fin s hs h3 e0 e1 e2 pre hp
        · unfold readV
          simp only [e2, if_false, false_and, and_false, Bool.false_eq_true] <;> exact Ev.some
      · unfold readV
        simp only [e1, if_false, false_and, and_false, Bool.false_eq_true] <;> exact Ev.some
    · unfold readV
      simp only [e0, if_false, false_and, Bool.false_eq_true] <;> exact Ev.some
  · simp only [h3, if_false]
    exact Ev.some
theorem readV_length (p0 p1 p2 : ByteArray) (q : List ByteArray) : (readV p0 p1 p2 q).2.2.2.1.length ≤ 3 := by
  unfold readV
  split
  next h => have := ver_parts h.2.2.2; show q.length ≤ 3; omega
  next => exact Nat.zero_le _
theorem parseV_length (s : ByteArray) : (parseV s).2.2.2.1.length ≤ 3 := by
  unfold parseV
  split
  · exact readV_length _ _ _ _
  · exact Nat.zero_le _
end Go.Proofs.YtpmooegakomnbabDoor.Pure
