/- What the functions come to that the law FnGlobs reaches: the parts, one behind the other. -/
import Derived.Test.YtbjgmbhkofgjaaaDoorZGAAux
import Derived.Test.YtbjgmbhkofgjaaaDoorZGAPGAx2
import Derived.Lib.SplitLaws
import Derived.Lib.ItoaNum
import Derived.Test.YtbjgmbhkofgjaaaDoorZGAPGAx3
import Derived.Test.YtbjgmbhkofgjaaaDoorZGAPGAx5
import Derived.Test.YtbjgmbhkofgjaaaDoorZGAPGAx4
import Derived.Test.YtbjgmbhkofgjaaaDoorZGAPGAx10
import Derived.Test.YtbjgmbhkofgjaaaDoorZGAPGAx6
import Derived.Test.YtbjgmbhkofgjaaaDoorZGAPGAx13
import Derived.Test.YtbjgmbhkofgjaaaDoorZGAPGAx9
import Derived.Lib.Join
import Derived.Test.YtbjgmbhkofgjaaaDoorZGAPGAx0
import Derived.Lib.CutLaws
set_option linter.unusedVariables false
set_option linter.unusedSimpArgs false
/- What the draws come to: their values' bounds. -/
namespace Go.Proofs.YtbjgmbhkofgjaaaDoor.Pure
open Go.RowKit Go.Proofs.YtbjgmbhkofgjaaaDoor.PGA Go.Proofs.YtbjgmbhkofgjaaaDoorW.PrintWords Go.Proofs.YtbjgmbhkofgjaaaDoorW.PrintLast Go.Proofs.YtbjgmbhkofgjaaaDoor.Aux

/-- With enough rounds there is an answer, of which p holds. -/
def Got {α : Type} (g : Nat → Option α) (p : α → Prop) : Prop := ∃ r, Ev g r ∧ p r
theorem Got.bind {α β : Type} {g : Nat → Option α} {f : Nat → α → Option β} {p : α → Prop} {q : β → Prop} (h : Got g p) (h' : ∀ r, p r → Got (fun k => f k r) q) : Got (fun k => (g k).bind (f k)) q := by
  obtain ⟨r, hr, hp⟩ := h
  obtain ⟨s, hs, hq⟩ := h' r hp
  exact ⟨s, Ev.bind hr hs, hq⟩
theorem Got.some {α : Type} {r : α} {p : α → Prop} (h : p r) : Got (fun _ => Option.some r) p := ⟨r, Ev.some, h⟩
theorem Got.succ {α : Type} {g : Nat → Option α} {p : α → Prop} (h : Got (fun k => g (k + 1)) p) : Got g p := by
  obtain ⟨r, hr, hp⟩ := h
  exact ⟨r, Ev.succ hr, hp⟩
theorem Got.const {α : Type} {o : Option α} {p : α → Prop} (h : ∃ r, o = Option.some r ∧ p r) : Got (fun _ => o) p := by
  obtain ⟨r, e, hp⟩ := h
  exact ⟨r, Ev.const e, hp⟩
theorem Got.of {α : Type} {g : Nat → Option α} {r : α} {p : α → Prop} (h : Ev g r) (hp : p r) : Got g p := ⟨r, h, hp⟩
theorem Got.mono {α : Type} {g : Nat → Option α} {p q : α → Prop} (h : Got g p) (hpq : ∀ r, p r → q r) : Got g q := by
  obtain ⟨r, hr, hp⟩ := h
  exact ⟨r, hr, hpq r hp⟩
theorem Got.cond {α : Type} {c : Prop} [Decidable c] {g f : Nat → Option α} {p : α → Prop} (h : c → Got g p) (h' : ¬c → Got f p) : Got (fun k => if c then g k else f k) p := by
  by_cases hc : c
  · simpa only [hc, if_true] using h hc
  · simpa only [hc, if_false] using h' hc
theorem Got.ev {α : Type} {g : Nat → Option α} {s : α} (h : Got g (fun r => r = s)) : Ev g s := by
  obtain ⟨r, hr, rfl⟩ := h
  exact hr

/-- A cursor stands within its bytes. -/
def Cur (b : List Int) (i : Int) : Prop := 0 ≤ i ∧ i ≤ (b.length : Int) ∧ b.length ≤ 140737488355328

theorem and255 (x : Int) : 0 ≤ Go.bits .and .i64 x 255 ∧ Go.bits .and .i64 x 255 ≤ 255 := by
  have h : (BitVec.ofInt 64 x &&& BitVec.ofInt 64 255).toNat ≤ 255 := by
    rw [BitVec.toNat_and]
    exact Nat.and_le_right
  have e : Go.bits .and .i64 x 255 = IntKind.wrap .i64 ((BitVec.ofInt 64 x &&& BitVec.ofInt 64 255).toNat : Int) := rfl
  rw [e, IntKind.wrap_i64]
  omega
theorem draw_byte (b : List Int) (i h : Int) (hc : Cur b i) : ∃ r, spec_l1Byte.f b i h = some r ∧ (0 ≤ r.1 ∧ r.1 ≤ 255) ∧ Cur b r.2.1 := by
  obtain ⟨c0, c1, c2⟩ := hc
  unfold spec_l1Byte.f
  by_cases h1 : i < (b.length : Int)
  · simp only [h1, c0, if_true]
    refine ⟨_, rfl, and255 _, ?_⟩
    show Cur b (wrap64 (i + 1))
    rw [wrap64_id (by omega) (by omega)]
    exact ⟨by omega, by omega, c2⟩
  · simp only [h1, if_false]
    exact ⟨_, rfl, and255 _, c0, c1, c2⟩
theorem draw_below (b : List Int) (i h n : Int) (hn : 0 < n) (hn' : n ≤ 9223372036854775807) (hc : Cur b i) : Got (fun k => spec_l1Below.f k b i h n) fun r => (0 ≤ r.1 ∧ r.1 < n) ∧ Cur b r.2.1 := by
  have tm : ∀ x : Int, 0 ≤ x → 0 ≤ Int.tmod x n ∧ Int.tmod x n < n := by
    intro x hx
    rw [Int.tmod_eq_emod_of_nonneg hx]
    exact ⟨Int.emod_nonneg _ (by omega), Int.emod_lt_of_pos _ hn⟩
  unfold spec_l1Below.f
  simp only [show ¬ n ≤ 0 by omega, if_false]
  refine Got.succ ?_
  simp only [spec_l1Below.j0, show ¬ n = 0 by omega, if_false]
  refine Got.cond (fun _ => ?_) (fun _ => ?_)
  · refine Got.bind (Got.const (draw_byte b i h hc)) fun r hr => Got.some ?_
    exact ⟨tm _ hr.1.1, hr.2⟩
  · refine Got.bind (Got.const (draw_byte b i h hc)) fun r hr => ?_
    refine Got.bind (Got.const (draw_byte b _ _ hr.2)) fun r2 hr2 => ?_
    refine Got.bind (Got.const (draw_byte b _ _ hr2.2)) fun r3 hr3 => Got.some ?_
    obtain ⟨a1, a2⟩ := hr.1
    obtain ⟨b1, b2⟩ := hr2.1
    obtain ⟨c1, c2⟩ := hr3.1
    refine ⟨tm _ ?_, hr3.2⟩
    rw [wrap64_id (i := r.1 * 65536) (by omega) (by omega), wrap64_id (i := r2.1 * 256) (by omega) (by omega), wrap64_id (i := r.1 * 65536 + r2.1 * 256) (by omega) (by omega), wrap64_id (by omega) (by omega)]
    omega
theorem draw_once (b : List Int) (i h n : Int) (hn : 0 < n) (hn' : n ≤ 9223372036854775807) (hc : Cur b i) : Got (fun k => spec_l1Once.f k b i h n) fun r => Cur b r.2.1 := by
  unfold spec_l1Once.f
  exact Got.bind (draw_below b i h n hn hn' hc) fun r hr => Got.some hr.2
theorem draw_str (b : List Int) (i h : Int) (l : List ByteArray) (hl : 0 < l.length) (hl' : l.length ≤ 1000000) (hc : Cur b i) : Got (fun k => spec_l1Str.f k b i h l) fun r => r.1 ∈ l ∧ Cur b r.2.1 := by
  unfold spec_l1Str.f
  refine Got.bind (draw_below b i h _ (by omega) (by omega) hc) fun r hr => ?_
  obtain ⟨⟨h0, h1⟩, h2⟩ := hr
  simp only [h0, h1, if_true]
  refine Got.some ⟨?_, h2⟩
  obtain ⟨j, hj⟩ := Int.eq_ofNat_of_zero_le h0
  rw [hj]
  have hlt : j < l.length := by omega
  show rdOf ByteArray.empty l (j : Int) ∈ l
  rw [rdOf_cast _ hlt]
  exact List.getElem_mem hlt
theorem draw_new_l (l : List Int) (hl : l.length ≤ 1000000000) (d : Nat) : ∀ (j : Nat) (x : Int), j + d = l.length → Got (fun k => spec_l1New.l0 k l x (j : Int)) fun r => r.1 = l ∧ r.2.1 = 0 := by
  induction d with
  | zero =>
    intro j x hj
    refine Got.succ ?_
    simp only [spec_l1New.l0, show ¬ (j : Int) < (l.length : Int) by omega, if_false]
    exact Got.some ⟨rfl, rfl⟩
  | succ d ih =>
    intro j x hj
    refine Got.succ ?_
    simp only [spec_l1New.l0, show (j : Int) < (l.length : Int) by omega, if_true, show (0 : Int) ≤ (j : Int) by omega, next_i (show j < l.length by omega) (by omega)]
    exact Got.cond (fun _ => ih (j + 1) _ (by omega)) (fun _ => Got.some ⟨rfl, rfl⟩)
theorem draw_new (l : List Int) (hl : l.length ≤ 1000000000) : Got (fun k => spec_l1New.f k l) fun r => r.1 = l ∧ r.2.1 = 0 := draw_new_l l hl l.length 0 _ (by omega)
theorem cur_new {l : List Int} (hl : l.length ≤ 1000000000) {r : List Int × Int × Int} (h : r.1 = l ∧ r.2.1 = 0) : Cur r.1 r.2.1 := by
  obtain ⟨h1, h2⟩ := h
  rw [h1, h2]
  exact ⟨by omega, by omega, by omega⟩
end Go.Proofs.YtbjgmbhkofgjaaaDoor.Pure
/- What a text comes to when it is split: one piece behind the other. -/
namespace Go.Proofs.YtbjgmbhkofgjaaaDoor.Pure
open Go.RowKit Go.Proofs.YtbjgmbhkofgjaaaDoor.Aux Go.Proofs.YtbjgmbhkofgjaaaDoorW.PrintWords

theorem Ev.yes {α : Type} {c : Prop} [Decidable c] {g f : Nat → Option α} {r : α} (hc : c) (h : Ev g r) : Ev (fun k => if c then g k else f k) r := by
  simpa only [hc, if_true] using h
theorem Ev.no {α : Type} {c : Prop} [Decidable c] {g f : Nat → Option α} {r : α} (hc : ¬ c) (h : Ev f r) : Ev (fun k => if c then g k else f k) r := by
  simpa only [hc, if_false] using h
/-- The bytes u ahead of the first piece. -/
def glue (u : List UInt8) : List (List UInt8) → List (List UInt8)
  | [] => [u]
  | p :: ps => (u ++ p) :: ps
theorem glue_nil : ∀ {l : List (List UInt8)}, l ≠ [] → glue [] l = l
  | [], h => absurd rfl h
  | _ :: _, _ => rfl
theorem glue_glue (u v : List UInt8) : ∀ l : List (List UInt8), l ≠ [] → glue u (glue v l) = glue (u ++ v) l
  | [], h => absurd rfl h
  | p :: ps, _ => by simp [glue]
theorem glue_ne (u : List UInt8) : ∀ l, glue u l ≠ []
  | [] => by simp [glue]
  | _ :: _ => by simp [glue]

theorem split_miss {s sep : List UInt8} (h : Lib.index s sep = -1) : Lib.split s sep = [s] := by
  unfold Lib.split
  rw [Lib.count_miss h]
  rfl
theorem split_hit {s sep : List UInt8} {i : Nat} (h1 : sep ≠ []) (h : Lib.index s sep = i) : Lib.split s sep = s.take i :: Lib.split (s.drop (i + sep.length)) sep := by
  unfold Lib.split
  rw [Lib.count_hit h1 h, Nat.add_comm]
  have hm : ¬ (Lib.index s sep == -1) = true := fun e => by have := beq_iff_eq.1 e; omega
  have e : (Lib.index s sep).toNat = i := by omega
  rw [Lib.splitK, if_neg hm, e]
  rfl
theorem split_ne (s sep : List UInt8) : Lib.split s sep ≠ [] := by
  unfold Lib.split
  cases Lib.count s sep with
  | zero => simp [Lib.splitK]
  | succ k =>
    unfold Lib.splitK
    split <;> simp
theorem split_nil {sep : List UInt8} (h1 : sep ≠ []) : Lib.split [] sep = [[]] := by
  refine split_miss ?_
  cases sep with
  | nil => exact absurd rfl h1
  | cons a b => rfl
theorem split_at {s sep : List UInt8} (h1 : sep ≠ []) (h : sep.isPrefixOf s = true) : Lib.split s sep = [] :: Lib.split (s.drop sep.length) sep := by
  have hi : Lib.index s sep = ((0 : Nat) : Int) := by
    cases s with
    | nil =>
      cases sep with
      | nil => exact absurd rfl h1
      | cons a b => simp at h
    | cons b l => unfold Lib.index; rw [if_pos h]; rfl
  rw [split_hit h1 hi]
  simp
theorem split_by {b : UInt8} {l sep : List UInt8} (h1 : sep ≠ []) (h : sep.isPrefixOf (b :: l) = false) : Lib.split (b :: l) sep = glue [b] (Lib.split l sep) := by
  have hx : Lib.index (b :: l) sep = if Lib.index l sep == -1 then -1 else Lib.index l sep + 1 := by rw [Lib.index, h]; simp
  by_cases hm : Lib.index l sep = -1
  · rw [split_miss hm, split_miss (by rw [hx, if_pos (beq_iff_eq.2 hm)])]
    rfl
  · have hge := Lib.index_ge l sep
    obtain ⟨j, hj⟩ : ∃ j : Nat, Lib.index l sep = j := ⟨(Lib.index l sep).toNat, by omega⟩
    have hx' : Lib.index (b :: l) sep = ((j + 1 : Nat) : Int) := by rw [hx, if_neg (fun e => hm (beq_iff_eq.1 e)), hj]; omega
    rw [split_hit h1 hj, split_hit h1 hx']
    simp [glue, Nat.add_right_comm]

theorem split_one_at (c : UInt8) (l : List UInt8) : Lib.split (c :: l) [c] = [] :: Lib.split l [c] := by
  rw [split_at (sep := [c]) (by simp) (by unfold List.isPrefixOf; simp)]
  rfl
theorem split_one_by {b c : UInt8} (l : List UInt8) (h : ¬ b = c) : Lib.split (b :: l) [c] = glue [b] (Lib.split l [c]) :=
  split_by (by simp) (by
    unfold List.isPrefixOf
    rw [show (c == b) = false from by simpa using fun e => h e.symm]
    rfl)

/-- A text of bytes. -/
def ofL (l : List UInt8) : ByteArray := ⟨l.toArray⟩
theorem ofL_data (s : ByteArray) : ofL s.data.toList = s := by cases s; simp [ofL]
theorem data_ofL (l : List UInt8) : (ofL l).data.toList = l := by simp [ofL]
theorem ofL_size (l : List UInt8) : (ofL l).size = l.length := by simp [ofL, ByteArray.size]
/-- The pieces of a text. -/
def piecesB (s sep : ByteArray) : List ByteArray := (Lib.split s.data.toList sep.data.toList).map ofL
theorem splitB_pieces (s sep : ByteArray) : Lib.splitB sep 0 (Lib.countB s sep) s = piecesB s sep := by
  have h := Lib.splitB_data sep 0 (Lib.countB s sep) s
  unfold piecesB Lib.split
  rw [← h, List.map_map]
  conv => lhs; rw [← List.map_id (Lib.splitB sep 0 (Lib.countB s sep) s)]
  exact List.map_congr_left (fun x _ => by simp [ofL_data])
theorem extract_ofL (s : ByteArray) (a b : Nat) : s.extract a b = ofL ((s.data.toList.drop a).take (b - a)) := by
  rw [← ofL_data (s.extract a b), Lib.extract_data]
theorem data_drop {s : ByteArray} {i : Nat} (h : i < s.size) : ∃ b : UInt8, s.data.toList.drop i = b :: s.data.toList.drop (i + 1) ∧ bt s (i : Int) = (b.toNat : Int) ∧ s.data.toList[i]? = some b := by
  have hl : i < s.data.toList.length := by simpa using h
  refine ⟨s.data.toList[i], List.drop_eq_getElem_cons hl, ?_, List.getElem?_eq_getElem hl⟩
  rw [bt_bs]
  unfold bs
  rw [List.getD_eq_getElem?_getD, Int.toNat_natCast, List.getElem?_map, List.getElem?_eq_getElem hl]
  rfl
/-- How many pieces, and how long each is. -/
theorem pieces_mem {s sep : ByteArray} (h1 : sep.data.toList ≠ []) : ∀ x ∈ piecesB s sep, x.size ≤ s.size := by
  have main : ∀ (n : Nat) (l : List UInt8), l.length = n → ∀ x ∈ Lib.split l sep.data.toList, x.length ≤ n := by
    intro n
    induction n using Nat.strongRecOn with
    | _ n ih =>
      intro l hl x hx
      rcases Lib.index_spec l sep.data.toList with ⟨hm, _⟩ | ⟨i, hi, hle, _, _⟩
      · rw [split_miss hm] at hx
        obtain rfl := List.mem_singleton.1 hx
        omega
      · rw [split_hit h1 hi] at hx
        have hp : 0 < sep.data.toList.length := List.length_pos_iff.2 h1
        have hr := Lib.index_room l sep.data.toList (by omega)
        rcases List.mem_cons.1 hx with rfl | hx
        · rw [List.length_take]; omega
        · have := ih (l.length - (i + sep.data.toList.length)) (by omega) _ (by rw [List.length_drop]) x hx
          omega
  intro x hx
  obtain ⟨u, hu, rfl⟩ := List.mem_map.1 hx
  rw [ofL_size]
  have := main _ _ rfl u hu
  rwa [show s.data.toList.length = s.size from by simp] at this
theorem pieces_length {s sep : ByteArray} (h1 : 1 ≤ sep.size) : (piecesB s sep).length ≤ s.size + 1 := by
  rw [← splitB_pieces]
  have := Lib.splitB_length_le sep 0 (Lib.countB s sep) s
  have := Lib.countB_le sep h1 s.size s (Nat.le_refl _)
  omega
end Go.Proofs.YtbjgmbhkofgjaaaDoor.Pure
/- What NumText comes to, of the reference and of the program: the decimal digits. -/
namespace Go.Proofs.YtbjgmbhkofgjaaaDoor.Pure
open Go.RowKit Go.Proofs.YtbjgmbhkofgjaaaDoor.PGA Go.Proofs.YtbjgmbhkofgjaaaDoorW.PrintWords Go.Proofs.YtbjgmbhkofgjaaaDoorW.PrintLast Go.Proofs.YtbjgmbhkofgjaaaDoor.Aux

/-- The text of a number's digits; of one below 0: "0". -/
def numB (x : Int) : ByteArray := ofL (Lib.decDigits x.toNat)
theorem dig_one (x : Nat) : strOfNums [wrap64 (48 + Int.tmod (x : Int) 10) % 256] = ofL [UInt8.ofNat (48 + x % 10)] := by
  have h : wrap64 (48 + Int.tmod (x : Int) 10) % 256 = ((48 + x % 10 : Nat) : Int) := by
    rw [Int.tmod_eq_emod_of_nonneg (by omega), wrap64_id (by omega) (by omega)]
    omega
  rw [h]
  rfl
theorem ofL_append (a b : List UInt8) : ofL a ++ ofL b = ofL (a ++ b) := by
  rw [← ofL_data (ofL a ++ ofL b)]
  simp [ofL]
theorem spec_num_l (m : Nat) : ∀ (x : Nat) (rest : List UInt8), x < 10 ^ m → x ≤ 9223372036854775807 → m + rest.length ≤ 100 →
    Ev (fun k => spec_NumText.l0 k (x : Int) (ofL (UInt8.ofNat (48 + x % 10) :: rest))) (ofL (Lib.decDigits x ++ rest)) := by
  induction m with
  | zero =>
    intro x rest hx _ hr
    obtain rfl : x = 0 := by simp at hx; exact hx
    refine Ev.succ ?_
    simp only [spec_NumText.l0, show ¬ ((0 : Nat) : Int) > 9 by omega, if_false]
    refine Ev.cast Ev.some ?_
    rw [Lib.decDigits, dif_pos (by omega)]
    rfl
  | succ m ih =>
    intro x rest hx hx2 hr
    by_cases h9 : x < 10
    · refine Ev.succ ?_
      simp only [spec_NumText.l0, show ¬ (x : Int) > 9 by omega, if_false]
      refine Ev.cast Ev.some ?_
      rw [Lib.decDigits, dif_pos h9, Nat.mod_eq_of_lt h9]
      rfl
    · have hd : wrap64 (Int.tdiv (x : Int) 10) = ((x / 10 : Nat) : Int) := by
        rw [Int.tdiv_eq_ediv_of_nonneg (by omega), wrap64_id (by omega) (by omega)]
        omega
      have hw : ∀ (y : Nat), (strOfNums [wrap64 (48 + Int.tmod (y : Int) 10) % 256]) = ofL [UInt8.ofNat (48 + y % 10)] := dig_one
      have := ih (x / 10) (UInt8.ofNat (48 + x % 10) :: rest) (by rw [Nat.pow_succ] at hx; omega) (by omega) (by simp only [List.length_cons]; omega)
      refine Ev.succ ?_
      simp only [spec_NumText.l0, show (x : Int) > 9 by omega, if_true, Option.bind_some, hd, hw, ofL_append, ofL_size, List.length_cons, List.length_nil, show 0 + 1 + (rest.length + 1) ≤ 9223372036854775807 by omega]
      refine Ev.cast this ?_
      rw [show Lib.decDigits x = Lib.decDigits (x / 10) ++ [UInt8.ofNat (48 + x % 10)] from by rw [Lib.decDigits, dif_neg h9]]
      simp
theorem spec_num (x : Int) (h : x ≤ 9223372036854775807) : Ev (fun k => spec_NumText.f k x) (numB x) := by
  unfold spec_NumText.f numB
  by_cases h0 : x < 0
  · simp only [h0, if_true]
    refine Ev.succ ?_
    simp only [spec_NumText.j0]
    have := spec_num_l 1 0 [] (by omega) (by omega) (by simp)
    rw [show x.toNat = 0 by omega]
    have hd := dig_one 0
    rw [show ((0 : Nat) : Int) = 0 from rfl] at hd this
    rw [hd]
    simpa using this
  · simp only [h0, if_false]
    obtain ⟨n, rfl⟩ : ∃ n : Nat, x = n := ⟨x.toNat, by omega⟩
    refine Ev.succ ?_
    simp only [spec_NumText.j0]
    have := spec_num_l 19 n [] (by omega) (by omega) (by simp)
    rw [dig_one n]
    simpa using this
end Go.Proofs.YtbjgmbhkofgjaaaDoor.Pure
/- The kinds of bytes: what the reference's and the program's tests of one byte come to. -/
namespace Go.Proofs.YtbjgmbhkofgjaaaDoor.Pure
open Go.RowKit Go.Proofs.YtbjgmbhkofgjaaaDoor.PGA Go.Proofs.YtbjgmbhkofgjaaaDoorW.PrintWords Go.Proofs.YtbjgmbhkofgjaaaDoorW.PrintLast Go.Proofs.YtbjgmbhkofgjaaaDoor.Aux

def inB (x a b : Int) : Bool := decide (a ≤ x) && decide (x ≤ b)
def smallB (x : Int) : Bool := inB x 97 122
def digitB (x : Int) : Bool := inB x 48 57
def upperB (x : Int) : Bool := inB x 65 90

theorem in_f (a b c : Int) : spec_l1In.f a b c = some (inB a b c) := by
  unfold spec_l1In.f inB
  by_cases h : b ≤ a <;> simp [h]
theorem inRange_f (a b c : Int) : impl_inRange.f a b c = some (inB a b c) := by
  unfold impl_inRange.f inB
  by_cases h : b ≤ a <;> simp [h]
theorem small_spec {x : Int} (h : 0 ≤ x ∧ x ≤ 255) : spec_l1Small.f x = some (smallB x) := by
  unfold spec_l1Small.f
  rw [wrap64_id (by omega) (by omega), in_f]
  rfl
theorem digit_spec {x : Int} (h : 0 ≤ x ∧ x ≤ 255) : spec_l1Digit.f x = some (digitB x) := by
  unfold spec_l1Digit.f
  rw [wrap64_id (by omega) (by omega), in_f]
  rfl
theorem small_impl (x : Int) : impl_isSmall.f x = some (smallB x) := by
  unfold impl_isSmall.f smallB inB
  by_cases h : 97 ≤ x <;> simp [h]
theorem digit_impl (x : Int) : impl_isFigure.f x = some (digitB x) := by
  unfold impl_isFigure.f digitB inB
  by_cases h : 48 ≤ x <;> simp [h]

end Go.Proofs.YtbjgmbhkofgjaaaDoor.Pure
/- What Split comes to, of the reference and of the program: the pieces of the text. -/
namespace Go.Proofs.YtbjgmbhkofgjaaaDoor.Pure
open Go.RowKit Go.Proofs.YtbjgmbhkofgjaaaDoor.PGA Go.Proofs.YtbjgmbhkofgjaaaDoorW.PrintWords Go.Proofs.YtbjgmbhkofgjaaaDoorW.PrintLast Go.Proofs.YtbjgmbhkofgjaaaDoor.Aux

theorem spec_split_l (s : ByteArray) (c : UInt8) (hs : s.size ≤ 16777216) (d : Nat) : ∀ (i fr : Nat) (out : List ByteArray), i + d = s.size → fr ≤ i → out.length ≤ i →
    Ev (fun k => spec_Split.l0 k s (c.toNat : Int) out (fr : Int) (i : Int)) (out ++ (glue ((s.data.toList.drop fr).take (i - fr)) (Lib.split (s.data.toList.drop i) [c])).map ofL) := by
  induction d with
  | zero =>
    intro i fr out hi hf ho
    obtain rfl : i = s.size := by omega
    have h3 := wrap64_id (i := (s.size : Int) + 1) (by omega) (by omega)
    have hd : s.data.toList.drop s.size = [] := List.drop_eq_nil_of_le (by simp)
    refine Ev.succ ?_
    simp only [spec_Split.l0, Int.le_refl, if_true, show (0 : Int) ≤ (fr : Int) by omega, show (fr : Int) ≤ (s.size : Int) by omega, show out.length < 8796093022208 by omega, h3]
    refine Ev.succ ?_
    simp only [spec_Split.l0, show ¬ ((s.size : Int) + 1 ≤ (s.size : Int)) by omega, if_false]
    refine Ev.cast Ev.some ?_
    rw [hd, split_nil (by simp)]
    simp only [glue, List.append_nil, List.map_cons, List.map_nil, Int.toNat_natCast, extract_ofL]
  | succ d ih =>
    intro i fr out hi hf ho
    have hlt : i < s.size := by omega
    have h3 := next_i hlt (by omega)
    obtain ⟨b, hb, hbt, hg⟩ := data_drop hlt
    refine Ev.succ ?_
    simp only [spec_Split.l0, show (i : Int) ≤ (s.size : Int) by omega, show ¬ (i : Int) = (s.size : Int) by omega, show (0 : Int) ≤ (i : Int) by omega, show (i : Int) < (s.size : Int) by omega, if_true, if_false, h3, hbt]
    by_cases h : b = c
    · subst h
      simp only [show (0 : Int) ≤ (fr : Int) by omega, show (fr : Int) ≤ (i : Int) by omega, show out.length < 8796093022208 by omega, if_true]
      refine Ev.cast (ih (i + 1) (i + 1) _ (by omega) (by omega) (by simp; omega)) ?_
      rw [hb, split_one_at, Nat.sub_self, List.take_zero, glue_nil (split_ne _ _)]
      simp only [glue, List.append_nil, List.map_cons, List.append_assoc, List.singleton_append, Int.toNat_natCast, extract_ofL]
    · have hne : ¬ ((b.toNat : Int) = (c.toNat : Int)) := fun e => h (UInt8.toNat_inj.1 (by omega))
      simp only [hne, if_false]
      refine Ev.cast (ih (i + 1) fr out (by omega) (by omega) (by omega)) ?_
      rw [hb, split_one_by _ h, glue_glue _ _ _ (split_ne _ _)]
      congr 3
      have hx : (s.data.toList.drop fr)[i - fr]? = some b := by rw [List.getElem?_drop, show fr + (i - fr) = i by omega, hg]
      rw [show i + 1 - fr = (i - fr) + 1 by omega, List.take_add_one, hx]
      rfl
theorem spec_split (s : ByteArray) (c : UInt8) (hs : s.size ≤ 16777216) : Ev (fun k => spec_Split.f k s (c.toNat : Int)) (piecesB s ⟨#[c]⟩) := by
  unfold spec_Split.f
  refine Ev.cast (spec_split_l s c hs s.size 0 0 [] (by omega) (by omega) (by simp)) ?_
  rw [List.nil_append, List.drop_zero, Nat.sub_self, List.take_zero, glue_nil (split_ne _ _)]
  rfl
theorem strings_split (s : ByteArray) (c : UInt8) (hs : s.size ≤ 16777216) : strings_Split.f s ⟨#[c]⟩ = some (piecesB s ⟨#[c]⟩) := by
  unfold strings_Split.f
  rw [if_pos ⟨by omega, by show 1 ≤ 1; omega⟩, splitB_pieces]
end Go.Proofs.YtbjgmbhkofgjaaaDoor.Pure
/- The letters of names, and a path's pieces. -/
namespace Go.Proofs.YtbjgmbhkofgjaaaDoor.Pure
open Go.RowKit Go.Proofs.YtbjgmbhkofgjaaaDoor.PGA Go.Proofs.YtbjgmbhkofgjaaaDoorW.PrintWords Go.Proofs.YtbjgmbhkofgjaaaDoorW.PrintLast Go.Proofs.YtbjgmbhkofgjaaaDoor.Aux

def pathC (x : Int) : Bool := smallB x || (digitB x || (decide (x = 46) || (decide (x = 45) || decide (x = 95))))
theorem letter_spec {x : Int} (h : 0 ≤ x ∧ x ≤ 255) : spec_l5Letter.f x = some (pathC x) := by
  unfold spec_l5Letter.f pathC
  simp only [small_spec h, digit_spec h, Option.bind_some]
  cases smallB x <;> cases digitB x <;> simp
  by_cases h1 : x = 46 <;> by_cases h2 : x = 45 <;> simp [h1, h2]
  rfl
theorem letter_impl (x : Int) : impl_isPathByte.f x = some (pathC x) := by
  unfold impl_isPathByte.f pathC
  simp only [small_impl, digit_impl, Option.bind_some]
  cases smallB x <;> cases digitB x <;> simp
  by_cases h1 : x = 46 <;> by_cases h2 : x = 45 <;> simp [h1, h2]
  rfl
def slash : ByteArray := ⟨#[47]⟩
theorem slash_pieces {s : ByteArray} (hs : s.size ≤ 16777216) : (piecesB s slash).length ≤ 9223372036854775807 ∧ ∀ x ∈ piecesB s slash, x.size ≤ 9223372036854775807 := by
  have h := pieces_length (s := s) (sep := slash) (Nat.le_refl _)
  exact ⟨by omega, fun x hx => by have := pieces_mem (sep := slash) (by simp [slash]) x hx; omega⟩
end Go.Proofs.YtbjgmbhkofgjaaaDoor.Pure
/- What PathOk comes to, of the reference and of the program. -/
namespace Go.Proofs.YtbjgmbhkofgjaaaDoor.Pure
open Go.RowKit Go.Proofs.YtbjgmbhkofgjaaaDoor.PGA Go.Proofs.YtbjgmbhkofgjaaaDoorW.PrintWords Go.Proofs.YtbjgmbhkofgjaaaDoorW.PrintLast Go.Proofs.YtbjgmbhkofgjaaaDoor.Aux

def nameEnd (s : ByteArray) : Bool := inB s.size 1 12 && (!decide (s.toList = ([46] : List UInt8)) && (s.toList != ([46, 46] : List UInt8)))
def fnameB (s : ByteArray) : Bool := (bs s).all pathC && nameEnd s
theorem spec_fname_l (s : ByteArray) (hs : s.size ≤ 9223372036854775807) (d : Nat) : ∀ i : Nat, i + d = s.size → Ev (fun k => spec_l5Name.l0 k s (i : Int)) (((bs s).drop i).all pathC && nameEnd s) := by
  induction d with
  | zero =>
    intro i hi
    have h1 : ¬ (i : Int) < (s.size : Int) := by omega
    refine Ev.succ ?_
    simp only [spec_l5Name.l0, h1, if_false, bs_end (show s.size ≤ i by omega), List.all_nil, Bool.true_and, in_f, Option.bind_some, nameEnd]
    cases hb : inB (s.size : Int) 1 12 with
    | false => simpa using Ev.some
    | true =>
      simp only [if_true]
      by_cases h : s.toList = ([46] : List UInt8)
      · simpa [h] using Ev.some
      · simpa [h] using Ev.some
  | succ d ih =>
    intro i hi
    have h1 : (i : Int) < (s.size : Int) := by omega
    have h2 : (0 : Int) ≤ (i : Int) := by omega
    have h3 := next_i (show i < s.size by omega) hs
    have ih' := ih (i + 1) (by omega)
    refine Ev.succ ?_
    rw [bs_drop (by omega), List.all_cons]
    simp only [spec_l5Name.l0, h1, h2, h3, if_true, letter_spec (bt_range s i), Option.bind_some]
    cases hp : pathC (bt s (i : Int)) with
    | true => simpa using ih'
    | false => simpa using Ev.some
theorem spec_fname (s : ByteArray) (hs : s.size ≤ 9223372036854775807) : Ev (fun k => spec_l5Name.f k s) (fnameB s) := spec_fname_l s hs s.size 0 (by omega)
theorem impl_fname_l (s : ByteArray) (hs : s.size ≤ 9223372036854775807) (d : Nat) : ∀ i : Nat, i + d = s.size → Ev (fun k => impl_fileNameOk.l0 k s (i : Int)) (((bs s).drop i).all pathC && nameEnd s) := by
  induction d with
  | zero =>
    intro i hi
    have h1 : ¬ (i : Int) < (s.size : Int) := by omega
    refine Ev.succ ?_
    simp only [impl_fileNameOk.l0, h1, if_false, bs_end (show s.size ≤ i by omega), List.all_nil, Bool.true_and, inRange_f, Option.bind_some, nameEnd]
    cases hb : inB (s.size : Int) 1 12 with
    | false => simpa using Ev.some
    | true =>
      simp only [if_true]
      by_cases h : s.toList = ([46] : List UInt8)
      · simpa [h] using Ev.some
      · simpa [h] using Ev.some
  | succ d ih =>
    intro i hi
    have h1 : (i : Int) < (s.size : Int) := by omega
    have h2 : (0 : Int) ≤ (i : Int) := by omega
    have h3 := next_i (show i < s.size by omega) hs
    have ih' := ih (i + 1) (by omega)
    refine Ev.succ ?_
    rw [bs_drop (by omega), List.all_cons]
    simp only [impl_fileNameOk.l0, h1, h2, h3, if_true, letter_impl, Option.bind_some]
    cases hp : pathC (bt s (i : Int)) with
    | true => simpa using ih'
    | false => simpa using Ev.some
theorem impl_fname (s : ByteArray) (hs : s.size ≤ 9223372036854775807) : Ev (fun k => impl_fileNameOk.f k s) (fnameB s) := impl_fname_l s hs s.size 0 (by omega)

def pathB (s : ByteArray) : Bool := (piecesB s slash).all fnameB && decide (((piecesB s slash).length : Int) ≤ 4)
theorem spec_path_l (l : List ByteArray) (hl : l.length ≤ 9223372036854775807) (hs : ∀ x ∈ l, x.size ≤ 9223372036854775807) (d : Nat) : ∀ i : Nat, i + d = l.length → Ev (fun k => spec_PathOk.l0 k l (i : Int)) ((l.drop i).all fnameB && decide ((l.length : Int) ≤ 4)) := by
  induction d with
  | zero =>
    intro i hi
    have h1 : ¬ (i : Int) < (l.length : Int) := by omega
    refine Ev.succ ?_
    rw [List.drop_eq_nil_of_le (by omega)]
    simp only [spec_PathOk.l0, h1, if_false, List.all_nil, Bool.true_and]
    exact Ev.some
  | succ d ih =>
    intro i hi
    have hlt : i < l.length := by omega
    have h1 : (i : Int) < (l.length : Int) := by omega
    have h2 : (0 : Int) ≤ (i : Int) := by omega
    have h3 := next_i hlt hl
    have ih' := ih (i + 1) (by omega)
    refine Ev.succ ?_
    rw [drop_get hlt, List.all_cons]
    simp only [spec_PathOk.l0, h1, h2, h3, if_true, rdOf_cast _ hlt]
    refine Ev.bind (spec_fname l[i] (hs _ (List.getElem_mem hlt))) ?_
    cases hp : fnameB l[i] with
    | true => simpa using ih'
    | false => simpa using Ev.some
theorem impl_path_l (l : List ByteArray) (hl : l.length ≤ 9223372036854775807) (hs : ∀ x ∈ l, x.size ≤ 9223372036854775807) (d : Nat) : ∀ i : Nat, i + d = l.length → Ev (fun k => impl_PathOk.l0 k l l (l.length : Int) (i : Int)) ((l.drop i).all fnameB && decide ((l.length : Int) ≤ 4)) := by
  induction d with
  | zero =>
    intro i hi
    have h1 : ¬ (i : Int) < (l.length : Int) := by omega
    refine Ev.succ ?_
    rw [List.drop_eq_nil_of_le (by omega)]
    simp only [impl_PathOk.l0, h1, if_false, List.all_nil, Bool.true_and]
    exact Ev.some
  | succ d ih =>
    intro i hi
    have hlt : i < l.length := by omega
    have h1 : (i : Int) < (l.length : Int) := by omega
    have h2 : (0 : Int) ≤ (i : Int) := by omega
    have h3 := next_i hlt hl
    have ih' := ih (i + 1) (by omega)
    refine Ev.succ ?_
    rw [drop_get hlt, List.all_cons]
    simp only [impl_PathOk.l0, h1, h2, h3, if_true, rdOf_cast _ hlt]
    refine Ev.bind (impl_fname l[i] (hs _ (List.getElem_mem hlt))) ?_
    cases hp : fnameB l[i] with
    | true => simpa using ih'
    | false => simpa using Ev.some
theorem spec_path (s : ByteArray) (hs : s.size ≤ 16777216) : Ev (fun k => spec_PathOk.f k s) (pathB s) := by
  unfold spec_PathOk.f
  have h := slash_pieces hs
  refine Ev.bind (spec_split s 47 hs) ?_
  exact spec_path_l _ h.1 h.2 _ 0 (Nat.zero_add _)
theorem impl_path (s : ByteArray) (hs : s.size ≤ 16777216) : Ev (fun k => impl_PathOk.f k s) (pathB s) := by
  unfold impl_PathOk.f
  have h := slash_pieces hs
  rw [strings_split s 47 hs]
  simp only [Option.bind_some]
  exact impl_path_l _ h.1 h.2 _ 0 (Nat.zero_add _)
end Go.Proofs.YtbjgmbhkofgjaaaDoor.Pure
/- What FilesOk comes to, of the reference and of the program. -/
namespace Go.Proofs.YtbjgmbhkofgjaaaDoor.Pure
open Go.RowKit Go.Proofs.YtbjgmbhkofgjaaaDoor.PGA Go.Proofs.YtbjgmbhkofgjaaaDoorW.PrintWords Go.Proofs.YtbjgmbhkofgjaaaDoorW.PrintLast Go.Proofs.YtbjgmbhkofgjaaaDoor.Aux

def fileB (x : S44) : Bool := pathB x.f0 && !decide ((x.f1.size : Int) > 60)
/-- From a file on: each is right, and behind the one ahead of it. -/
def filesFrom : Option ByteArray → List S44 → Bool
  | _, [] => true
  | p, x :: r => fileB x && ((match p with | none => true | some q => Op.bytesLess q.toList x.f0.toList) && filesFrom (some x.f0) r)
def filesB (l : List S44) : Bool := filesFrom none l && decide ((l.length : Int) ≤ 30)
def prevOf (l : List S44) (i : Nat) : Option ByteArray := if i = 0 then none else some (l.getD (i - 1) ⟨⟨#[]⟩, ⟨#[]⟩⟩).f0
theorem prev_next {l : List S44} {i : Nat} (h : i < l.length) : prevOf l (i + 1) = some l[i].f0 := by
  unfold prevOf
  rw [if_neg (by omega), Nat.add_sub_cancel, List.getD_eq_getElem?_getD, List.getElem?_eq_getElem h]
  rfl

theorem spec_files_l (l : List S44) (hl : l.length ≤ 9223372036854775807) (hs : ∀ x ∈ l, x.f0.size ≤ 16777216) (d : Nat) : ∀ i : Nat, i + d = l.length → Ev (fun k => spec_FilesOk.l0 k l (i : Int)) (filesFrom (prevOf l i) (l.drop i) && decide ((l.length : Int) ≤ 30)) := by
  induction d with
  | zero =>
    intro i hi
    have h1 : ¬ (i : Int) < (l.length : Int) := by omega
    refine Ev.succ ?_
    rw [List.drop_eq_nil_of_le (by omega)]
    simp only [spec_FilesOk.l0, h1, if_false, filesFrom, Bool.true_and]
    exact Ev.some
  | succ d ih =>
    intro i hi
    have hlt : i < l.length := by omega
    have h1 : (i : Int) < (l.length : Int) := by omega
    have h2 : (0 : Int) ≤ (i : Int) := by omega
    have h3 := next_i hlt hl
    have ih' := ih (i + 1) (by omega)
    rw [prev_next hlt] at ih'
    have hg : rd_T44 l (i : Int) = l[i] := rdD_cast _ hlt
    refine Ev.succ ?_
    rw [drop_get hlt]
    simp only [spec_FilesOk.l0, h1, h2, h3, if_true, hg, filesFrom, fileB]
    refine Ev.bind (spec_path l[i].f0 (hs _ (List.getElem_mem hlt))) ?_
    cases hp : pathB l[i].f0 with
    | false => simpa using Ev.some
    | true =>
      simp only [if_true, Bool.true_and]
      by_cases hz : (l[i].f1.size : Int) > 60
      · simpa [hz] using Ev.some
      · simp only [hz, if_false, decide_false, Bool.not_false, Bool.true_and]
        by_cases h0 : i = 0
        · subst h0
          simpa [prevOf] using ih'
        · have hp0 : (i : Int) > 0 := by omega
          have hw : wrap64 ((i : Int) - 1) = ((i - 1 : Nat) : Int) := by rw [wrap64_id (by omega) (by omega)]; omega
          have hgp : rd_T44 l ((i - 1 : Nat) : Int) = l[i - 1] := rdD_cast _ (by omega)
          have hpv : prevOf l i = some l[i - 1].f0 := by
            have := prev_next (l := l) (i := i - 1) (by omega)
            rwa [Nat.sub_add_cancel (by omega)] at this
          simp only [hp0, if_true, hw, show (0 : Int) ≤ ((i - 1 : Nat) : Int) by omega, show ((i - 1 : Nat) : Int) < (l.length : Int) by omega, hgp, hpv]
          cases hb : Op.bytesLess l[i - 1].f0.toList l[i].f0.toList with
          | true => simpa using ih'
          | false => simpa using Ev.some
theorem spec_files (l : List S44) (hl : l.length ≤ 9223372036854775807) (hs : ∀ x ∈ l, x.f0.size ≤ 16777216) : Ev (fun k => spec_FilesOk.f k l) (filesB l) := spec_files_l l hl hs l.length 0 (by omega)

end Go.Proofs.YtbjgmbhkofgjaaaDoor.Pure
/- What GlobOk comes to, of the reference and of the program. -/
namespace Go.Proofs.YtbjgmbhkofgjaaaDoor.Pure
open Go.RowKit Go.Proofs.YtbjgmbhkofgjaaaDoor.PGA Go.Proofs.YtbjgmbhkofgjaaaDoorW.PrintWords Go.Proofs.YtbjgmbhkofgjaaaDoorW.PrintLast Go.Proofs.YtbjgmbhkofgjaaaDoor.Aux

def ccB (b : UInt8) : Bool := smallB (b.toNat : Int) || digitB (b.toNat : Int)
/-- How many letters and digits a text begins with. -/
def runN (l : List UInt8) : Nat := (l.takeWhile ccB).length
def notN (l : List UInt8) : Nat := if l.head? = some 33 then 1 else 0
/-- A class behind its bracket: how many bytes it takes, up to the closing one; 0: it is none. -/
def clsN (l : List UInt8) : Nat := if 1 ≤ runN (l.drop (notN l)) ∧ runN (l.drop (notN l)) ≤ 5 ∧ (l.drop (notN l + runN (l.drop (notN l)))).head? = some 93 then notN l + runN (l.drop (notN l)) + 1 else 0
/-- How many bytes the first unit takes; 0: there is none. -/
def unitN : List UInt8 → Nat
  | [] => 0
  | b :: r => if pathC (b.toNat : Int) = true ∨ b = 63 ∨ b = 42 then 1 else if b = 91 then (if clsN r = 0 then 0 else 1 + clsN r) else 0
theorem runN_le (l : List UInt8) : runN l ≤ l.length := (List.takeWhile_sublist _).length_le
theorem runN_cons (b : UInt8) (l : List UInt8) : runN (b :: l) = if ccB b = true then runN l + 1 else 0 := by
  unfold runN
  rw [List.takeWhile_cons]
  cases ccB b <;> simp
theorem clsN_le (l : List UInt8) : clsN l ≤ l.length := by
  unfold clsN
  split
  · rename_i h
    obtain ⟨_, _, h3⟩ := h
    have : (l.drop (notN l + runN (l.drop (notN l)))).length ≠ 0 := by
      intro e
      rw [List.length_eq_zero_iff.1 e] at h3
      cases h3
    rw [List.length_drop] at this
    omega
  · omega
theorem unitN_le (l : List UInt8) : unitN l ≤ l.length := by
  cases l with
  | nil => simp [unitN]
  | cons b r =>
    have := clsN_le r
    simp only [unitN, List.length_cons]
    split
    · omega
    · split
      · split <;> omega
      · omega
/-- From a number of units on: is the rest made of units, and are they as many as may be? -/
def unitsF : Nat → List UInt8 → Int → Bool
  | 0, _, n => inB n 1 12
  | f + 1, l, n => if l = [] then inB n 1 12 else if unitN l = 0 then false else unitsF f (l.drop (unitN l)) (n + 1)
def pieceB (s : ByteArray) : Bool := unitsF (s.size + 1) s.data.toList 0
theorem cc_impl {s : ByteArray} {i : Nat} {b : UInt8} (hbt : bt s (i : Int) = (b.toNat : Int)) : (smallB (bt s (i : Int)) || digitB (bt s (i : Int))) = ccB b := by
  unfold ccB
  rw [hbt]

/-- What the program's loop over a class answers. -/
def clsR (s : ByteArray) (i j : Nat) : Int := if 1 ≤ j + runN (s.data.toList.drop i) ∧ j + runN (s.data.toList.drop i) ≤ 5 ∧ (s.data.toList.drop (i + runN (s.data.toList.drop i))).head? = some 93 then ((i + runN (s.data.toList.drop i) + 1 : Nat) : Int) else 0
theorem head_at {s : ByteArray} {i : Nat} : (s.data.toList.drop i).head? = s.data.toList[i]? := by
  rw [List.head?_drop]
theorem head_93 {s : ByteArray} {i : Nat} (h : i < s.size) : (s.data.toList.drop i).head? = some 93 ↔ bt s (i : Int) = 93 := by
  obtain ⟨b, _, hbt, hg⟩ := data_drop h
  rw [head_at, hg, hbt]
  refine ⟨fun e => by rw [Option.some.inj e]; rfl, fun e => ?_⟩
  rw [show b = 93 from UInt8.toNat_inj.1 (by simp; omega)]
theorem impl_cls_l (s : ByteArray) (hs : s.size ≤ 16777216) (fr : Nat) (d : Nat) : ∀ i : Nat, i + d = s.size → fr ≤ i → Ev (fun k => impl_unitOf.l0 k s (i : Int) (fr : Int)) (clsR s i (i - fr)) := by
  induction d with
  | zero =>
    intro i hi hf
    obtain rfl : i = s.size := by omega
    have hd : s.data.toList.drop s.size = [] := List.drop_eq_nil_of_le (by simp)
    refine Ev.succ ?_
    simp only [impl_unitOf.l0, show ¬ (s.size : Int) < (s.size : Int) by omega, if_false, inRange_f, Option.bind_some, if_true]
    refine Ev.cast (r := 0) ?_ ?_
    · cases inB (wrap64 ((s.size : Int) - (fr : Int))) 1 5 <;> simpa using Ev.some
    · unfold clsR
      simp only [hd, show runN [] = 0 from rfl, Nat.add_zero]
      simp
  | succ d ih =>
    intro i hi hf
    have hlt : i < s.size := by omega
    have h1 : (i : Int) < (s.size : Int) := by omega
    have h2 : (0 : Int) ≤ (i : Int) := by omega
    have h3 := next_i hlt (by omega)
    obtain ⟨b, hb, hbt, hg⟩ := data_drop hlt
    have hw : wrap64 ((i : Int) - (fr : Int)) = ((i - fr : Nat) : Int) := by rw [wrap64_id (by omega) (by omega)]; omega
    have ih' := ih (i + 1) (by omega) (by omega)
    have hstep : ccB b = true → clsR s i (i - fr) = clsR s (i + 1) (i + 1 - fr) := fun hc => by
      unfold clsR
      rw [hb, runN_cons, if_pos hc, show i - fr + (runN (s.data.toList.drop (i + 1)) + 1) = i + 1 - fr + runN (s.data.toList.drop (i + 1)) by omega, show i + (runN (s.data.toList.drop (i + 1)) + 1) = i + 1 + runN (s.data.toList.drop (i + 1)) by omega]
    have hend : ccB b = false → clsR s i (i - fr) = if 1 ≤ i - fr ∧ i - fr ≤ 5 ∧ bt s (i : Int) = 93 then ((i + 1 : Nat) : Int) else 0 := fun hc => by
      have hr0 : runN (s.data.toList.drop i) = 0 := by rw [hb, runN_cons, if_neg (by simp [hc])]
      unfold clsR
      rw [hr0]
      simp only [Nat.add_zero, head_93 hlt]
    refine Ev.succ ?_
    simp only [impl_unitOf.l0, h1, h2, h3, if_true, small_impl, digit_impl, Option.bind_some]
    cases hp : smallB (bt s (i : Int)) with
    | true =>
      have hc : ccB b = true := by rw [← cc_impl hbt, hp]; rfl
      simp only [if_true]
      exact Ev.cast ih' (hstep hc).symm
    | false =>
      simp only [Bool.false_eq_true, if_false]
      cases hq : digitB (bt s (i : Int)) with
      | true =>
        have hc : ccB b = true := by rw [← cc_impl hbt, hp, hq]; rfl
        simp only [if_true]
        exact Ev.cast ih' (hstep hc).symm
      | false =>
        have hc : ccB b = false := by rw [← cc_impl hbt, hp, hq]; rfl
        simp only [Bool.false_eq_true, if_false, inRange_f, Option.bind_some, hw, show ¬ (i : Int) = (s.size : Int) by omega]
        refine Ev.cast (Ev.const (r := if inB ((i - fr : Nat) : Int) 1 5 = true then (if bt s (i : Int) = 93 then ((i + 1 : Nat) : Int) else 0) else 0) (by split <;> (try split) <;> rfl)) ?_
        rw [hend hc]
        unfold inB
        by_cases e1 : 1 ≤ i - fr <;> by_cases e2 : i - fr ≤ 5 <;> by_cases e3 : bt s (i : Int) = 93 <;> simp [e1, e2, e3] <;> omega
theorem hasPrefix_bang (l : List UInt8) : Lib.hasPrefix l [33] = decide (l.head? = some 33) := by
  unfold Lib.hasPrefix
  cases l with
  | nil => rfl
  | cons b r =>
    simp only [List.isPrefixOf, Bool.and_true, List.head?_cons, Option.some.injEq]
    rw [Bool.eq_iff_iff]
    simp
    exact ⟨fun h => h.symm, fun h => h.symm⟩
theorem clsR_cls (s : ByteArray) (m : Nat) (r : List UInt8) (hr : s.data.toList.drop 1 = r) (hm : m = notN r) : clsR s (1 + m) 0 = if clsN r = 0 then 0 else ((1 + clsN r : Nat) : Int) := by
  subst hm
  unfold clsR clsN
  have e1 : s.data.toList.drop (1 + notN r) = r.drop (notN r) := by rw [← hr, List.drop_drop]
  have e2 : ∀ q, s.data.toList.drop (1 + notN r + q) = r.drop (notN r + q) := fun q => by rw [← hr, List.drop_drop, Nat.add_assoc]
  rw [e1, e2, Nat.zero_add]
  split
  · rw [if_neg (by omega)]
    omega
  · rw [if_pos rfl]
theorem impl_unit (s : ByteArray) (hs : s.size ≤ 16777216) (h0 : 1 ≤ s.size) : Ev (fun k => impl_unitOf.f k s) (unitN s.data.toList : Int) := by
  obtain ⟨b, hb, hbt, _⟩ := data_drop (s := s) (i := 0) (by omega)
  rw [List.drop_zero] at hb
  rw [show ((0 : Nat) : Int) = 0 from rfl] at hbt
  unfold impl_unitOf.f
  have hp0 : (0 : Int) < (s.size : Int) := by omega
  have hp1 : (1 : Int) ≤ (s.size : Int) := by omega
  have h63 : bt s 0 = 63 ↔ b = 63 := by rw [hbt]; exact ⟨fun e => UInt8.toNat_inj.1 (by simp; omega), fun e => by rw [e]; rfl⟩
  have h42 : bt s 0 = 42 ↔ b = 42 := by rw [hbt]; exact ⟨fun e => UInt8.toNat_inj.1 (by simp; omega), fun e => by rw [e]; rfl⟩
  have h91 : bt s 0 = 91 ↔ b = 91 := by rw [hbt]; exact ⟨fun e => UInt8.toNat_inj.1 (by simp; omega), fun e => by rw [e]; rfl⟩
  simp only [hp0, if_true, letter_impl, Option.bind_some]
  rw [hb]
  simp only [unitN]
  rw [← hbt]
  cases hpc : pathC (bt s 0) with
  | true =>
    simp only [if_true, true_or]
    refine Ev.succ ?_
    simp only [impl_unitOf.j0, if_true]
    exact Ev.some
  | false =>
    simp only [Bool.false_eq_true, if_false, false_or]
    by_cases e63 : b = 63
    · simp only [h63.2 e63, if_true, e63, true_or]
      refine Ev.succ ?_
      simp only [impl_unitOf.j0, if_true]
      exact Ev.some
    · simp only [show ¬ bt s 0 = 63 from fun e => e63 (h63.1 e), if_false, e63, false_or]
      by_cases e42 : b = 42
      · simp only [h42.2 e42, BEq.rfl, e42, if_true]
        refine Ev.succ ?_
        simp only [impl_unitOf.j0, if_true]
        exact Ev.some
      · have hne : (bt s 0 == 42) = false := by simpa using fun e => e42 (h42.1 e)
        simp only [hne, e42, if_false]
        refine Ev.succ ?_
        simp only [impl_unitOf.j0, Bool.false_eq_true, if_false]
        refine Ev.succ ?_
        simp only [impl_unitOf.j1, hp0, if_true]
        by_cases e91 : b = 91
        · simp only [h91.2 e91, if_true, e91]
          refine Ev.succ ?_
          have hex : (s.extract 1 s.size).data.toList = s.data.toList.drop 1 := by
            rw [extract_ofL, data_ofL, List.take_of_length_le (by simp)]
          simp only [impl_unitOf.j2, hp1, if_true, strings_HasPrefix.f, hex, Option.bind_some, hasPrefix_bang, decide_eq_true_eq]
          have hd1 : s.data.toList.drop 1 = s.data.toList.drop (0 + 1) := rfl
          by_cases hbang : (s.data.toList.drop 1).head? = some 33
          · simp only [hbang, if_true]
            refine Ev.succ ?_
            simp only [impl_unitOf.j3]
            have hsz : 2 ≤ s.size := by
              apply Decidable.byContradiction
              intro hc
              rw [List.drop_eq_nil_of_le (by simp; omega)] at hbang
              cases hbang
            have := impl_cls_l s hs 2 (s.size - 2) 2 (by omega) (by omega)
            refine Ev.cast this ?_
            have hn : 1 = notN (s.data.toList.drop 1) := by unfold notN; rw [if_pos hbang]
            have := clsR_cls s 1 _ rfl hn
            rw [Nat.sub_self, show clsR s 2 0 = clsR s (1 + 1) 0 from rfl, this]
            split <;> rfl
          · simp only [hbang, if_false]
            refine Ev.succ ?_
            simp only [impl_unitOf.j3]
            have := impl_cls_l s hs 1 (s.size - 1) 1 (by omega) (by omega)
            refine Ev.cast this ?_
            have hn : 0 = notN (s.data.toList.drop 1) := by unfold notN; rw [if_neg hbang]
            have := clsR_cls s 0 _ rfl hn
            rw [Nat.sub_self, show clsR s 1 0 = clsR s (1 + 0) 0 from rfl, this]
            split <;> rfl
        · simp only [show ¬ bt s 0 = 91 from fun e => e91 (h91.1 e), if_false, e91]
          exact Ev.some
theorem impl_piece_l (f : Nat) : ∀ (l : List UInt8) (n : Int), l.length < f → l.length ≤ 16777216 → 0 ≤ n → n + l.length ≤ 16777216 → Ev (fun k => impl_pieceOk.l0 k n (ofL l)) (unitsF f l n) := by
  induction f with
  | zero => intro l n h; omega
  | succ f ih =>
    intro l n hf hl hn hb
    refine Ev.succ ?_
    simp only [impl_pieceOk.l0, toList_data, data_ofL, unitsF, inRange_f, Option.bind_some]
    by_cases he : l = []
    · simp only [he, if_true]
      exact Ev.some
    · have hpos : 0 < l.length := List.length_pos_iff.2 he
      simp only [he, if_false]
      have hu := unitN_le l
      have hui := impl_unit (ofL l) (by rw [ofL_size]; exact hl) (by rw [ofL_size]; omega)
      rw [data_ofL] at hui
      refine Ev.bind hui ?_
      by_cases h0 : unitN l = 0
      · simp only [show ((unitN l : Nat) : Int) = 0 by omega, if_true, h0]
        exact Ev.some
      · simp only [show ¬ ((unitN l : Nat) : Int) = 0 by omega, if_false, h0, show (0 : Int) ≤ (unitN l : Int) by omega, if_true, ofL_size, show (unitN l : Int) ≤ (l.length : Int) by omega, Int.toNat_natCast]
        have hw : wrap64 (n + 1) = n + 1 := wrap64_id (by omega) (by omega)
        have hex : (ofL l).extract (unitN l) l.length = ofL (l.drop (unitN l)) := by
          rw [extract_ofL, data_ofL, List.take_of_length_le (by simp)]
        rw [hw, hex]
        exact ih _ _ (by rw [List.length_drop]; omega) (by rw [List.length_drop]; omega) (by omega) (by rw [List.length_drop]; omega)
theorem impl_piece (s : ByteArray) (hs : s.size ≤ 8388608) : Ev (fun k => impl_pieceOk.f k s) (pieceB s) := by
  have h := impl_piece_l (s.size + 1) s.data.toList 0 (by simp) (by simp; omega) (by omega) (by simp; omega)
  rw [ofL_data] at h
  exact h

/-- What the reference's loop over a class answers. -/
def clsS (s : ByteArray) (i j : Nat) : Int := if 1 ≤ j + runN (s.data.toList.drop i) ∧ j + runN (s.data.toList.drop i) ≤ 5 ∧ (s.data.toList.drop (i + runN (s.data.toList.drop i))).head? = some 93 then ((i + runN (s.data.toList.drop i) + 1 : Nat) : Int) else -1
theorem spec_cls_l (s : ByteArray) (hs : s.size ≤ 16777216) (d : Nat) : ∀ (i j : Nat), i + d = s.size → j ≤ i → Ev (fun k => spec_l6Class.l0 k s (i : Int) (j : Int)) (clsS s i j) := by
  induction d with
  | zero =>
    intro i j hi hj
    obtain rfl : i = s.size := by omega
    have hd : s.data.toList.drop s.size = [] := List.drop_eq_nil_of_le (by simp)
    refine Ev.succ ?_
    simp only [spec_l6Class.l0, show ¬ (s.size : Int) < (s.size : Int) by omega, if_false, in_f, Option.bind_some, ge_iff_le, Int.le_refl, if_true]
    refine Ev.cast (r := -1) ?_ ?_
    · cases inB (j : Int) 1 5 <;> simpa using Ev.some
    · unfold clsS
      simp only [hd, show runN [] = 0 from rfl, Nat.add_zero]
      simp
  | succ d ih =>
    intro i j hi hj
    have hlt : i < s.size := by omega
    have h1 : (i : Int) < (s.size : Int) := by omega
    have h2 : (0 : Int) ≤ (i : Int) := by omega
    have h3 := next_i hlt (by omega)
    have h4 : wrap64 ((j : Int) + 1) = ((j + 1 : Nat) : Int) := by rw [wrap64_id (by omega) (by omega)]; omega
    obtain ⟨b, hb, hbt, hg⟩ := data_drop hlt
    have ih' := ih (i + 1) (j + 1) (by omega) (by omega)
    have hr := bt_range s i
    have hstep : ccB b = true → clsS s i j = clsS s (i + 1) (j + 1) := fun hc => by
      unfold clsS
      rw [hb, runN_cons, if_pos hc, show j + (runN (s.data.toList.drop (i + 1)) + 1) = j + 1 + runN (s.data.toList.drop (i + 1)) by omega, show i + (runN (s.data.toList.drop (i + 1)) + 1) = i + 1 + runN (s.data.toList.drop (i + 1)) by omega]
    have hend : ccB b = false → clsS s i j = if 1 ≤ j ∧ j ≤ 5 ∧ bt s (i : Int) = 93 then ((i + 1 : Nat) : Int) else -1 := fun hc => by
      have hr0 : runN (s.data.toList.drop i) = 0 := by rw [hb, runN_cons, if_neg (by simp [hc])]
      unfold clsS
      rw [hr0]
      simp only [Nat.add_zero, head_93 hlt]
    refine Ev.succ ?_
    simp only [spec_l6Class.l0, h1, h2, h3, h4, if_true, small_spec hr, digit_spec hr, Option.bind_some]
    cases hp : smallB (bt s (i : Int)) with
    | true =>
      have hc : ccB b = true := by rw [← cc_impl hbt, hp]; rfl
      simp only [if_true]
      exact Ev.cast ih' (hstep hc).symm
    | false =>
      simp only [Bool.false_eq_true, if_false]
      cases hq : digitB (bt s (i : Int)) with
      | true =>
        have hc : ccB b = true := by rw [← cc_impl hbt, hp, hq]; rfl
        simp only [if_true]
        exact Ev.cast ih' (hstep hc).symm
      | false =>
        have hc : ccB b = false := by rw [← cc_impl hbt, hp, hq]; rfl
        simp only [Bool.false_eq_true, if_false, in_f, Option.bind_some, show ¬ (i : Int) ≥ (s.size : Int) by omega]
        refine Ev.cast (Ev.const (r := if inB (j : Int) 1 5 = true then (if bt s (i : Int) = 93 then ((i + 1 : Nat) : Int) else -1) else -1) (by split <;> (try split) <;> rfl)) ?_
        rw [hend hc]
        unfold inB
        by_cases e1 : 1 ≤ j <;> by_cases e2 : j ≤ 5 <;> by_cases e3 : bt s (i : Int) = 93 <;> simp [e1, e2, e3] <;> omega
theorem clsS_cls (s : ByteArray) (i : Nat) (m : Nat) (r : List UInt8) (hr : s.data.toList.drop (i + 1) = r) (hm : m = notN r) : clsS s (i + 1 + m) 0 = if clsN r = 0 then -1 else ((i + 1 + clsN r : Nat) : Int) := by
  subst hm
  unfold clsS clsN
  have e1 : s.data.toList.drop (i + 1 + notN r) = r.drop (notN r) := by rw [← hr, List.drop_drop]
  have e2 : ∀ q, s.data.toList.drop (i + 1 + notN r + q) = r.drop (notN r + q) := fun q => by rw [← hr, List.drop_drop, Nat.add_assoc]
  rw [e1, e2, Nat.zero_add]
  split
  · rw [if_neg (by omega)]
    omega
  · rw [if_pos rfl]
theorem spec_class (s : ByteArray) (hs : s.size ≤ 16777216) (i : Nat) (hi : i < s.size) : Ev (fun k => spec_l6Class.f k s (i : Int)) (if clsN (s.data.toList.drop (i + 1)) = 0 then -1 else ((i + 1 + clsN (s.data.toList.drop (i + 1)) : Nat) : Int)) := by
  have h3 := next_i hi (by omega)
  unfold spec_l6Class.f
  simp only [h3]
  by_cases hlt : ((i + 1 : Nat) : Int) < (s.size : Int)
  · obtain ⟨b, hb, hbt, hg⟩ := data_drop (s := s) (i := i + 1) (by omega)
    have h4 : wrap64 (((i + 1 : Nat) : Int) + 1) = ((i + 1 + 1 : Nat) : Int) := by rw [wrap64_id (by omega) (by omega)]; omega
    have hbang : bt s ((i + 1 : Nat) : Int) = 33 ↔ (s.data.toList.drop (i + 1)).head? = some 33 := by
      rw [head_at, hg, hbt]
      exact ⟨fun e => by rw [show b = 33 from UInt8.toNat_inj.1 (by simp; omega)], fun e => by rw [Option.some.inj e]; rfl⟩
    simp only [hlt, show (0 : Int) ≤ ((i + 1 : Nat) : Int) by omega, if_true]
    refine Ev.succ ?_
    simp only [spec_l6Class.j0]
    by_cases hq : (s.data.toList.drop (i + 1)).head? = some 33
    · simp only [hbang.2 hq, BEq.rfl, if_true, h4]
      refine Ev.succ ?_
      simp only [spec_l6Class.j1]
      have := spec_cls_l s hs (s.size - (i + 1 + 1)) (i + 1 + 1) 0 (by omega) (by omega)
      refine Ev.cast this ?_
      exact clsS_cls s i 1 _ rfl (by unfold notN; rw [if_pos hq])
    · have hne : (bt s ((i + 1 : Nat) : Int) == 33) = false := by simpa using fun e => hq (hbang.1 (by simpa using e))
      simp only [hne, Bool.false_eq_true, if_false]
      refine Ev.succ ?_
      simp only [spec_l6Class.j1]
      have := spec_cls_l s hs (s.size - (i + 1)) (i + 1) 0 (by omega) (by omega)
      refine Ev.cast this ?_
      exact clsS_cls s i 0 _ rfl (by unfold notN; rw [if_neg hq])
  · have hz : i + 1 = s.size := by omega
    simp only [hlt, if_false]
    refine Ev.succ ?_
    simp only [spec_l6Class.j0, Bool.false_eq_true, if_false]
    refine Ev.succ ?_
    simp only [spec_l6Class.j1]
    have := spec_cls_l s hs 0 (i + 1) 0 (by omega) (by omega)
    refine Ev.cast this ?_
    have hd : s.data.toList.drop (i + 1) = [] := List.drop_eq_nil_of_le (by simp; omega)
    exact clsS_cls s i 0 _ rfl (by rw [hd]; rfl)
theorem spec_piece_l (s : ByteArray) (hs : s.size ≤ 8388608) (f : Nat) : ∀ (i : Nat) (n : Int), i ≤ s.size → s.size - i < f → 0 ≤ n → n + (s.size - i : Nat) ≤ 16777216 → Ev (fun k => spec_l6Piece.l0 k s n (i : Int)) (unitsF f (s.data.toList.drop i) n) := by
  induction f with
  | zero => intro i n h1 h2; omega
  | succ f ih =>
    intro i n h1 h2 hn hb
    refine Ev.succ ?_
    simp only [spec_l6Piece.l0, unitsF, in_f, Option.bind_some]
    by_cases hlt : i < s.size
    · obtain ⟨b, hbd, hbt, hg⟩ := data_drop hlt
      have h3 := next_i hlt (by omega)
      have hw : wrap64 (n + 1) = n + 1 := wrap64_id (by omega) (by omega)
      have h42 : bt s (i : Int) = 42 ↔ b = 42 := by rw [hbt]; exact ⟨fun e => UInt8.toNat_inj.1 (by simp; omega), fun e => by rw [e]; rfl⟩
      have h63 : bt s (i : Int) = 63 ↔ b = 63 := by rw [hbt]; exact ⟨fun e => UInt8.toNat_inj.1 (by simp; omega), fun e => by rw [e]; rfl⟩
      have h91 : bt s (i : Int) = 91 ↔ b = 91 := by rw [hbt]; exact ⟨fun e => UInt8.toNat_inj.1 (by simp; omega), fun e => by rw [e]; rfl⟩
      have one : (s.data.toList.drop i).drop 1 = s.data.toList.drop (i + 1) := by rw [List.drop_drop]
      have ih1 := ih (i + 1) (n + 1) (by omega) (by omega) (by omega) (by omega)
      simp only [show (i : Int) < (s.size : Int) by omega, if_true]
      refine Ev.succ ?_
      simp only [spec_l6Piece.j1, show (i : Int) < (s.size : Int) by omega, show (0 : Int) ≤ (i : Int) by omega, if_true, hw, h3]
      rw [if_neg (show ¬ s.data.toList.drop i = [] by rw [hbd]; simp)]
      by_cases e91 : b = 91
      · have hnp : pathC ((91 : UInt8).toNat : Int) = false := by decide
        subst e91
        have hu : unitN (s.data.toList.drop i) = if clsN (s.data.toList.drop (i + 1)) = 0 then 0 else 1 + clsN (s.data.toList.drop (i + 1)) := by
          rw [hbd]
          simp only [unitN, hnp]
          rw [if_neg (by decide), if_pos trivial]
        simp only [h91.2 rfl, if_true]
        refine Ev.bind (spec_class s (by omega) i hlt) ?_
        by_cases hc : clsN (s.data.toList.drop (i + 1)) = 0
        · simp only [hc, if_true, hu]
          exact Ev.yes (by omega) Ev.some
        · have hle := clsN_le (s.data.toList.drop (i + 1))
          rw [List.length_drop, show s.data.toList.length = s.size by simp] at hle
          rw [hu]
          simp only [hc, if_false, show ¬ 1 + clsN (s.data.toList.drop (i + 1)) = 0 by omega]
          refine Ev.no (by omega) ?_
          rw [List.drop_drop, show i + (1 + clsN (s.data.toList.drop (i + 1))) = i + 1 + clsN (s.data.toList.drop (i + 1)) by omega]
          exact ih _ _ (by omega) (by omega) (by omega) (by omega)
      · simp only [show ¬ bt s (i : Int) = 91 from fun e => e91 (h91.1 e), if_false, letter_spec (bt_range s i), Option.bind_some]
        cases hpc : pathC (bt s (i : Int)) with
        | true =>
          have hu : unitN (s.data.toList.drop i) = 1 := by rw [hbd]; simp only [unitN]; rw [if_pos (.inl (by rw [← hbt]; exact hpc))]
          simp only [if_true, hu, show ¬ 1 = 0 by omega, if_false, one]
          exact ih1
        | false =>
          simp only [Bool.false_eq_true, if_false]
          by_cases e63 : b = 63
          · have hu : unitN (s.data.toList.drop i) = 1 := by rw [hbd]; simp only [unitN]; rw [if_pos (.inr (.inl e63))]
            simp only [h63.2 e63, if_true, hu, show ¬ 1 = 0 by omega, if_false, one]
            exact ih1
          · simp only [show ¬ bt s (i : Int) = 63 from fun e => e63 (h63.1 e), if_false]
            by_cases e42 : b = 42
            · have hu : unitN (s.data.toList.drop i) = 1 := by rw [hbd]; simp only [unitN]; rw [if_pos (.inr (.inr e42))]
              simp only [h42.2 e42, if_true, hu, show ¬ 1 = 0 by omega, if_false, one]
              exact ih1
            · have hu : unitN (s.data.toList.drop i) = 0 := by
                rw [hbd]
                simp only [unitN]
                rw [if_neg (by rw [← hbt, hpc]; simp [e63, e42]), if_neg e91]
              simp only [show ¬ bt s (i : Int) = 42 from fun e => e42 (h42.1 e), if_false, hu, if_true]
              exact Ev.some
    · obtain rfl : i = s.size := by omega
      have hd : s.data.toList.drop s.size = [] := List.drop_eq_nil_of_le (by simp)
      simp only [show ¬ (s.size : Int) < (s.size : Int) by omega, if_false, hd, if_true]
      exact Ev.some
theorem spec_piece (s : ByteArray) (hs : s.size ≤ 8388608) : Ev (fun k => spec_l6Piece.f k s) (pieceB s) := by
  have h := spec_piece_l s hs (s.size + 1) 0 0 (by omega) (by omega) (by omega) (by omega)
  rw [List.drop_zero] at h
  exact h
theorem piece_stars {s : ByteArray} (h : s.toList = ([42, 42] : List UInt8)) : pieceB s = true := by
  rw [toList_data] at h
  unfold pieceB
  have hl : s.size = 2 := by
    have := congrArg List.length h
    simpa using this
  rw [hl, h]
  decide
def globB (s : ByteArray) : Bool := (piecesB s slash).all pieceB && decide (((piecesB s slash).length : Int) ≤ 4)
theorem spec_glob_l (l : List ByteArray) (hl : l.length ≤ 9223372036854775807) (hs : ∀ x ∈ l, x.size ≤ 8388608) (d : Nat) : ∀ i : Nat, i + d = l.length → Ev (fun k => spec_GlobOk.l0 k l (i : Int)) ((l.drop i).all pieceB && decide ((l.length : Int) ≤ 4)) := by
  induction d with
  | zero =>
    intro i hi
    have h1 : ¬ (i : Int) < (l.length : Int) := by omega
    refine Ev.succ ?_
    rw [List.drop_eq_nil_of_le (by omega)]
    simp only [spec_GlobOk.l0, h1, if_false, List.all_nil, Bool.true_and]
    exact Ev.some
  | succ d ih =>
    intro i hi
    have hlt : i < l.length := by omega
    have h1 : (i : Int) < (l.length : Int) := by omega
    have h2 : (0 : Int) ≤ (i : Int) := by omega
    have h3 := next_i hlt hl
    have ih' := ih (i + 1) (by omega)
    refine Ev.succ ?_
    rw [drop_get hlt, List.all_cons]
    simp only [spec_GlobOk.l0, h1, h2, h3, if_true, rdOf_cast _ hlt]
    by_cases hst : l[i].toList = ([42, 42] : List UInt8)
    · simp only [hst, if_true, piece_stars hst, Bool.true_and]
      exact ih'
    · simp only [hst, if_false]
      refine Ev.bind (spec_piece l[i] (hs _ (List.getElem_mem hlt))) ?_
      cases hp : pieceB l[i] with
      | true => simpa using ih'
      | false => simpa using Ev.some
theorem impl_glob_l (l : List ByteArray) (hl : l.length ≤ 9223372036854775807) (hs : ∀ x ∈ l, x.size ≤ 8388608) (d : Nat) : ∀ i : Nat, i + d = l.length → Ev (fun k => impl_GlobOk.l0 k l l (l.length : Int) (i : Int)) ((l.drop i).all pieceB && decide ((l.length : Int) ≤ 4)) := by
  induction d with
  | zero =>
    intro i hi
    have h1 : ¬ (i : Int) < (l.length : Int) := by omega
    refine Ev.succ ?_
    rw [List.drop_eq_nil_of_le (by omega)]
    simp only [impl_GlobOk.l0, h1, if_false, List.all_nil, Bool.true_and]
    exact Ev.some
  | succ d ih =>
    intro i hi
    have hlt : i < l.length := by omega
    have h1 : (i : Int) < (l.length : Int) := by omega
    have h2 : (0 : Int) ≤ (i : Int) := by omega
    have h3 := next_i hlt hl
    have ih' := ih (i + 1) (by omega)
    refine Ev.succ ?_
    rw [drop_get hlt, List.all_cons]
    simp only [impl_GlobOk.l0, h1, h2, h3, if_true, rdOf_cast _ hlt]
    refine Ev.bind (impl_piece l[i] (hs _ (List.getElem_mem hlt))) ?_
    cases hp : pieceB l[i] with
    | true => simpa using ih'
    | false => simpa using Ev.some
theorem slash_small {s : ByteArray} (hs : s.size ≤ 8388608) : (piecesB s slash).length ≤ 9223372036854775807 ∧ ∀ x ∈ piecesB s slash, x.size ≤ 8388608 := by
  have h := pieces_length (s := s) (sep := slash) (Nat.le_refl _)
  exact ⟨by omega, fun x hx => by have := pieces_mem (sep := slash) (by simp [slash]) x hx; omega⟩
theorem spec_glob (s : ByteArray) (hs : s.size ≤ 8388608) : Ev (fun k => spec_GlobOk.f k s) (globB s) := by
  unfold spec_GlobOk.f
  have h := slash_small hs
  refine Ev.bind (spec_split s 47 (by omega)) ?_
  exact spec_glob_l _ h.1 h.2 _ 0 (Nat.zero_add _)
theorem impl_glob (s : ByteArray) (hs : s.size ≤ 8388608) : Ev (fun k => impl_GlobOk.f k s) (globB s) := by
  unfold impl_GlobOk.f
  have h := slash_small hs
  rw [strings_split s 47 (by omega)]
  simp only [Option.bind_some]
  exact impl_glob_l _ h.1 h.2 _ 0 (Nat.zero_add _)
end Go.Proofs.YtbjgmbhkofgjaaaDoor.Pure
/- What Matches comes to, of the reference and of the program. -/
namespace Go.Proofs.YtbjgmbhkofgjaaaDoor.Pure
open Go.RowKit Go.Proofs.YtbjgmbhkofgjaaaDoor.PGA Go.Proofs.YtbjgmbhkofgjaaaDoorW.PrintWords Go.Proofs.YtbjgmbhkofgjaaaDoorW.PrintLast Go.Proofs.YtbjgmbhkofgjaaaDoor.Aux

/-- Does it hold of one of the ends? -/
def anyD {α : Type} (g : List α → Bool) : List α → Bool
  | [] => g []
  | c :: r => g (c :: r) || anyD g r
def bangL (v : List UInt8) : Bool := decide (v.head? = some 33)
def trimL (v : List UInt8) : List UInt8 := if bangL v = true then v.drop 1 else v
def clsT (v : List UInt8) (c : UInt8) : Bool := (trimL v).contains c != bangL v
/-- What one unit takes. -/
def takesU (u : List UInt8) (c : UInt8) : Bool := if u = [63] then true else if u.length = 1 then u.head? == some c else clsT ((u.drop 1).take (u.length - 2)) c
def nameMF : Nat → List UInt8 → List UInt8 → Bool
  | 0, _, _ => false
  | f + 1, p, t => if p = [] then t == [] else if p.take (unitN p) = [42] then anyD (nameMF f (p.drop (unitN p))) t else match t with
    | [] => false
    | c :: r => takesU (p.take (unitN p)) c && nameMF f (p.drop (unitN p)) r
/-- Made of units. -/
inductive UV : List UInt8 → Prop
  | nil : UV []
  | unit {p : List UInt8} : unitN p ≠ 0 → UV (p.drop (unitN p)) → UV p
theorem UV.of : ∀ (f : Nat) (l : List UInt8) (n : Int), l.length < f → unitsF f l n = true → UV l
  | 0, l, n, h, _ => absurd h (by omega)
  | f + 1, l, n, h, e => by
    rw [unitsF] at e
    by_cases hl : l = []
    · subst hl; exact .nil
    · rw [if_neg hl] at e
      by_cases h0 : unitN l = 0
      · rw [if_pos h0] at e; cases e
      · rw [if_neg h0] at e
        have hp := List.length_pos_iff.2 hl
        exact .unit h0 (UV.of f _ _ (by rw [List.length_drop]; omega) e)
theorem UV.ofB {s : ByteArray} (h : pieceB s = true) : UV s.data.toList := UV.of _ _ _ (by simp) h
theorem UV.next {p : List UInt8} (h : UV p) (hp : p ≠ []) : unitN p ≠ 0 ∧ UV (p.drop (unitN p)) := by
  cases h with
  | nil => exact absurd rfl hp
  | unit a b => exact ⟨a, b⟩

theorem ofL_bt (b : UInt8) (r : List UInt8) : bt (ofL (b :: r)) 0 = (b.toNat : Int) := by
  obtain ⟨b', hb, hbt, _⟩ := data_drop (s := ofL (b :: r)) (i := 0) (by rw [ofL_size]; simp)
  rw [data_ofL, List.drop_zero] at hb
  rw [show ((0 : Nat) : Int) = 0 from rfl] at hbt
  rw [hbt, (List.cons.inj hb).1]
theorem ofL_bt_i {l : List UInt8} {i : Nat} (h : i < l.length) : bt (ofL l) (i : Int) = (l[i].toNat : Int) := by
  obtain ⟨b', hb, hbt, hg⟩ := data_drop (s := ofL l) (i := i) (by rw [ofL_size]; exact h)
  rw [data_ofL, List.getElem?_eq_getElem h] at hg
  rw [hbt, Option.some.inj hg]
theorem ofL_ext (l : List UInt8) (a b : Nat) : (ofL l).extract a b = ofL ((l.drop a).take (b - a)) := by rw [extract_ofL, data_ofL]
theorem ofL_end (l : List UInt8) (a : Nat) : (ofL l).extract a l.length = ofL (l.drop a) := by
  rw [ofL_ext, List.take_of_length_le (by rw [List.length_drop]; exact Nat.le_refl _)]
theorem ofL_toList (l : List UInt8) : (ofL l).toList = l := by rw [toList_data, data_ofL]
theorem u8_int {a b : UInt8} : ((a.toNat : Int) = (b.toNat : Int)) ↔ a = b := ⟨fun e => UInt8.toNat_inj.1 (by omega), fun e => by rw [e]⟩

theorem take_run (l : List UInt8) : l.take (runN l) = l.takeWhile ccB := (List.prefix_iff_eq_take.1 (List.takeWhile_prefix ccB)).symm
theorem mem_while {c : UInt8 → Bool} : ∀ {l : List UInt8} {x : UInt8}, x ∈ l.takeWhile c → c x = true
  | b :: l, x, h => by
    rw [List.takeWhile_cons] at h
    cases hb : c b with
    | false => rw [hb] at h; simp at h
    | true =>
      rw [hb, if_pos rfl] at h
      rcases List.mem_cons.1 h with rfl | h
      · exact hb
      · exact mem_while h
theorem run_cc (l : List UInt8) : ∀ x ∈ l.take (runN l), ccB x = true := by
  intro x hx
  rw [take_run] at hx
  exact mem_while hx
/-- What stands in a class: the sign, and letters and digits. -/
theorem cls_in {r : List UInt8} (h : clsN r ≠ 0) : (∀ x ∈ trimL (r.take (clsN r - 1)), ccB x = true) ∧ 1 ≤ clsN r - 1 := by
  have hc : clsN r = notN r + runN (r.drop (notN r)) + 1 ∧ 1 ≤ runN (r.drop (notN r)) := by
    unfold clsN at h ⊢
    split
    next hh => exact ⟨rfl, hh.1⟩
    next hh => rw [if_neg hh] at h; exact absurd rfl h
  refine ⟨?_, by omega⟩
  rw [hc.1, Nat.add_sub_cancel]
  have hrun := run_cc (r.drop (notN r))
  cases r with
  | nil => intro x hx; simp [trimL, bangL] at hx
  | cons b r =>
    by_cases hb : b = 33
    · subst hb
      have hn : notN (33 :: r) = 1 := rfl
      rw [hn] at hrun ⊢
      rw [show (33 :: r).drop 1 = r from rfl] at hrun ⊢
      rw [Nat.add_comm, List.take_succ_cons]
      exact hrun
    · have hn : notN (b :: r) = 0 := by unfold notN; rw [if_neg (by simpa using hb)]
      rw [hn] at hrun ⊢
      rw [List.drop_zero, Nat.zero_add] at *
      have hbang : bangL ((b :: r).take (runN (b :: r))) = false := by
        unfold bangL
        rw [decide_eq_false_iff_not, List.head?_take]
        split <;> simp [hb]
      unfold trimL
      rw [hbang]
      exact hrun
theorem cc_33 : ccB 33 = false := by decide
/-- What the reference's class takes is the same. -/
theorem clsT_spec {v : List UInt8} (h : ∀ x ∈ trimL v, ccB x = true) (c : UInt8) : clsT v c = if c ≠ 33 ∧ v.contains c = true then !bangL v else bangL v := by
  unfold clsT
  by_cases h33 : c = 33
  · subst h33
    have : (trimL v).contains 33 = false := by
      rw [Bool.eq_false_iff]
      intro e
      have := h 33 (by simpa using e)
      rw [cc_33] at this
      cases this
    rw [this, if_neg (by simp)]
    simp
  · have : (trimL v).contains c = v.contains c := by
      unfold trimL
      split
      next hb =>
        unfold bangL at hb
        cases v with
        | nil => rfl
        | cons a r =>
          simp only [List.head?_cons, decide_eq_true_eq, Option.some.injEq] at hb
          subst hb
          rw [List.drop_one, List.tail_cons, List.contains_cons, show (c == 33) = false from by simpa using h33, Bool.false_or]
      next => rfl
    rw [this]
    cases v.contains c <;> cases bangL v <;> simp [h33]

theorem indexByte_has (c : UInt8) : ∀ l : List UInt8, -1 ≤ Lib.indexByte l c ∧ decide (Lib.indexByte l c ≥ 0) = l.contains c
  | [] => ⟨by simp [Lib.indexByte], by simp [Lib.indexByte]⟩
  | b :: l => by
    have ⟨h1, h2⟩ := indexByte_has c l
    rw [Lib.indexByte, List.contains_cons, ← h2]
    by_cases e : b = c
    · subst e
      simp
    · have e1 : (b == c) = false := by simpa using e
      have e2 : (c == b) = false := by simpa using fun x => e x.symm
      simp only [e1, e2, Bool.false_eq_true, if_false, Bool.false_or]
      by_cases hm : Lib.indexByte l c = -1
      · simp [hm]
      · have hm' : (Lib.indexByte l c == -1) = false := by simpa using hm
        simp only [hm', Bool.false_eq_true, if_false]
        refine ⟨by omega, ?_⟩
        rw [Bool.eq_iff_iff]
        simp only [decide_eq_true_eq]
        omega
theorem impl_unitTakes_f (u : List UInt8) (c : UInt8) (hu : 1 ≤ u.length) (hs : u.length ≤ 16777216) : impl_unitTakes.f (ofL u) (c.toNat : Int) = some (takesU u c) := by
  unfold impl_unitTakes.f takesU
  rw [ofL_toList, ofL_size]
  by_cases h63 : u = [63]
  · rw [if_pos h63, if_pos h63]
  · rw [if_neg h63, if_neg h63]
    by_cases h1 : u.length = 1
    · rw [if_pos (by omega), if_pos (by omega), if_pos h1]
      match u, h1 with
      | [b], _ =>
        rw [ofL_bt]
        refine congrArg some ?_
        rw [Bool.eq_iff_iff]
        simp only [beq_iff_eq, List.head?_cons, Option.some.injEq]
        exact u8_int
    · have hw : wrap64 ((u.length : Int) - 1) = ((u.length - 1 : Nat) : Int) := by rw [wrap64_id (by omega) (by omega)]; omega
      rw [if_neg (by omega), if_neg h1, hw, if_pos (by omega), if_pos (by omega), Int.toNat_natCast, ofL_ext, show u.length - 1 - 1 = u.length - 2 by omega]
      have hc : ((c.toNat : Int)).toNat.toUInt8 = c := by simp
      simp only [strings_CutPrefix.f, strings_IndexByte.f, Option.bind_some, data_ofL, hc, show (⟨#[33]⟩ : ByteArray).data.toList = [33] from rfl]
      refine congrArg some ?_
      generalize (u.drop 1).take (u.length - 2) = v
      rw [(indexByte_has c _).2]
      unfold clsT trimL Lib.trimPrefix bangL
      rw [hasPrefix_bang]
      rfl

/-- The first unit: how it begins tells what it is. -/
theorem unit_one {b : UInt8} {r : List UInt8} (h : b ≠ 91) (h0 : unitN (b :: r) ≠ 0) : unitN (b :: r) = 1 := by
  simp only [unitN] at h0 ⊢
  by_cases hh : pathC (b.toNat : Int) = true ∨ b = 63 ∨ b = 42
  · rw [if_pos hh]
  · rw [if_neg hh, if_neg h] at h0
    exact absurd rfl h0
theorem unit_cls {r : List UInt8} (h0 : unitN (91 :: r) ≠ 0) : clsN r ≠ 0 ∧ unitN (91 :: r) = 1 + clsN r := by
  have hnp : ¬ (pathC ((91 : UInt8).toNat : Int) = true ∨ (91 : UInt8) = 63 ∨ (91 : UInt8) = 42) := by decide
  simp only [unitN] at h0 ⊢
  rw [if_neg hnp, if_pos trivial] at h0 ⊢
  by_cases hc : clsN r = 0
  · rw [if_pos hc] at h0; exact absurd rfl h0
  · rw [if_neg hc]; exact ⟨hc, rfl⟩

theorem impl_name_loop (g : List UInt8 → Bool) (p' t : List UInt8) (ht : t.length ≤ 16777216) (hg : ∀ i ≤ t.length, Ev (fun k => impl_pieceTakes.f k (ofL p') (ofL (t.drop i))) (g (t.drop i))) (d : Nat) :
    ∀ i : Nat, i + d = t.length → Ev (fun k => impl_pieceTakes.l0 k (ofL t) (ofL p') ((t.length + 1 : Nat) : Int) (i : Int)) (anyD g (t.drop i)) := by
  induction d with
  | zero =>
    intro i hi
    have h := hg i (by omega)
    have hn : wrap64 ((i : Int) + 1) = ((i + 1 : Nat) : Int) := by rw [wrap64_id (by omega) (by omega)]; omega
    have hd : t.drop i = [] := List.drop_eq_nil_of_le (by omega)
    refine Ev.succ ?_
    simp only [impl_pieceTakes.l0, show (i : Int) < ((t.length + 1 : Nat) : Int) by omega, show (0 : Int) ≤ (i : Int) by omega, ofL_size, show (i : Int) ≤ (t.length : Int) by omega, if_true, Int.toNat_natCast, ofL_end]
    refine Ev.bind h ?_
    rw [hd]
    show Ev _ (g [])
    cases g [] with
    | true => simpa using Ev.some
    | false =>
      simp only [Bool.false_eq_true, if_false, hn]
      refine Ev.succ ?_
      simp only [impl_pieceTakes.l0, show ¬ ((i + 1 : Nat) : Int) < ((t.length + 1 : Nat) : Int) by omega, if_false]
      exact Ev.some
  | succ d ih =>
    intro i hi
    have h := hg i (by omega)
    have hn : wrap64 ((i : Int) + 1) = ((i + 1 : Nat) : Int) := by rw [wrap64_id (by omega) (by omega)]; omega
    refine Ev.succ ?_
    simp only [impl_pieceTakes.l0, show (i : Int) < ((t.length + 1 : Nat) : Int) by omega, show (0 : Int) ≤ (i : Int) by omega, ofL_size, show (i : Int) ≤ (t.length : Int) by omega, if_true, Int.toNat_natCast, ofL_end]
    refine Ev.bind h ?_
    rw [drop_get (show i < t.length by omega)]
    show Ev _ (g (t[i] :: t.drop (i + 1)) || anyD g (t.drop (i + 1)))
    cases g (t[i] :: t.drop (i + 1)) with
    | true => simpa using Ev.some
    | false =>
      simp only [Bool.false_eq_true, if_false, hn, Bool.false_or]
      exact ih (i + 1) (by omega)
theorem impl_name (f : Nat) : ∀ p t : List UInt8, p.length < f → UV p → p.length ≤ 16777216 → t.length ≤ 16777216 → Ev (fun k => impl_pieceTakes.f k (ofL p) (ofL t)) (nameMF f p t) := by
  induction f with
  | zero => intro p t h; omega
  | succ f ih =>
    intro p t hf hv hp ht
    refine Ev.succ ?_
    simp only [impl_pieceTakes.f, ofL_toList, nameMF]
    by_cases he : p = []
    · simp only [he, if_true]
      exact Ev.some
    · obtain ⟨h0, hv'⟩ := hv.next he
      have hpos := List.length_pos_iff.2 he
      have hu := unitN_le p
      have hui := impl_unit (ofL p) (by rw [ofL_size]; exact hp) (by rw [ofL_size]; omega)
      rw [data_ofL] at hui
      have hl' : (p.drop (unitN p)).length < f := by rw [List.length_drop]; omega
      have hl2 : (p.drop (unitN p)).length ≤ 16777216 := by rw [List.length_drop]; omega
      simp only [he, if_false]
      refine Ev.succ ?_
      simp only [impl_pieceTakes.j0]
      refine Ev.bind hui ?_
      simp only [show (0 : Int) ≤ (unitN p : Int) by omega, ofL_size, show (unitN p : Int) ≤ (p.length : Int) by omega, if_true, Int.toNat_natCast, ofL_end]
      rw [show (ofL p).extract 0 (unitN p) = ofL (p.take (unitN p)) from by rw [ofL_ext, List.drop_zero, Nat.sub_zero]]
      simp only [ofL_toList]
      by_cases hst : p.take (unitN p) = [42]
      · simp only [hst, if_true]
        have := impl_name_loop (nameMF f (p.drop (unitN p))) (p.drop (unitN p)) t ht (fun i hi => ih _ _ hl' hv' hl2 (by rw [List.length_drop]; omega)) t.length 0 (by omega)
        rw [List.drop_zero] at this
        rw [show wrap64 ((t.length : Int) + 1) = ((t.length + 1 : Nat) : Int) from by rw [wrap64_id (by omega) (by omega)]; omega]
        exact this
      · simp only [hst, if_false]
        cases t with
        | nil =>
          refine Ev.yes rfl ?_
          exact Ev.some
        | cons c r =>
          refine Ev.no (by simp) ?_
          simp only [List.length_cons, show (0 : Int) < ((r.length + 1 : Nat) : Int) by omega, if_true, ofL_bt]
          rw [impl_unitTakes_f _ c (by rw [List.length_take]; omega) (by rw [List.length_take]; omega)]
          simp only [Option.bind_some, show (1 : Int) ≤ ((r.length + 1 : Nat) : Int) by omega, if_true]
          cases takesU (p.take (unitN p)) c with
          | false =>
            simp only [Bool.false_eq_true, if_false, Bool.false_and]
            exact Ev.some
          | true =>
            simp only [if_true, Bool.true_and]
            refine Ev.bind (ih _ r hl' hv' hl2 (by simp at ht; omega)) ?_
            exact Ev.some

theorem spec_takes_l (v : List UInt8) (hv : v.length ≤ 16777216) (c : UInt8) (x : Bool) (d : Nat) : ∀ i : Nat, i + d = v.length → Ev (fun k => spec_l6Takes.l0 k (ofL v) (c.toNat : Int) x (i : Int)) (if c ≠ 33 ∧ (v.drop i).contains c = true then !x else x) := by
  induction d with
  | zero =>
    intro i hi
    refine Ev.succ ?_
    rw [List.drop_eq_nil_of_le (by omega)]
    simp only [spec_l6Takes.l0, ofL_size, show ¬ (i : Int) < (v.length : Int) by omega, if_false]
    refine Ev.cast Ev.some ?_
    simp
  | succ d ih =>
    intro i hi
    have hlt : i < v.length := by omega
    have hn : wrap64 ((i : Int) + 1) = ((i + 1 : Nat) : Int) := by rw [wrap64_id (by omega) (by omega)]; omega
    have ih' := ih (i + 1) (by omega)
    refine Ev.succ ?_
    rw [drop_get hlt, List.contains_cons]
    simp only [spec_l6Takes.l0, ofL_size, show (i : Int) < (v.length : Int) by omega, show (0 : Int) ≤ (i : Int) by omega, if_true, ofL_bt_i hlt, hn]
    by_cases e : v[i] = c
    · refine Ev.yes (u8_int.2 e) ?_
      have e' : (c == v[i]) = true := by simpa using e.symm
      by_cases h33 : c = 33
      · refine Ev.yes (by rw [h33]; rfl) ?_
        refine Ev.cast ih' ?_
        simp [h33]
      · refine Ev.no (fun h => h33 (u8_int.1 h)) ?_
        refine Ev.cast Ev.some ?_
        simp [h33, e']
    · refine Ev.no (fun h => e (u8_int.1 h)) ?_
      have e' : (c == v[i]) = false := by simpa using fun x => e x.symm
      simp only [e', Bool.false_or]
      exact ih'
theorem spec_takes (v : List UInt8) (hv : v.length ≤ 16777216) (c : UInt8) (hcc : ∀ x ∈ trimL v, ccB x = true) : Ev (fun k => spec_l6Takes.f k (ofL v) (c.toNat : Int)) (clsT v c) := by
  rw [clsT_spec hcc]
  unfold spec_l6Takes.f
  have main : Ev (fun k => spec_l6Takes.j0 k (ofL v) (c.toNat : Int) (bangL v)) (if c ≠ 33 ∧ v.contains c = true then !bangL v else bangL v) := by
    refine Ev.succ ?_
    simp only [spec_l6Takes.j0]
    have := spec_takes_l v hv c (bangL v) v.length 0 (by omega)
    rw [List.drop_zero] at this
    exact this
  cases v with
  | nil =>
    refine Ev.no (by rw [ofL_size]; simp) ?_
    exact main
  | cons b r =>
    refine Ev.yes (by rw [ofL_size, List.length_cons]; omega) (Ev.yes (by rw [ofL_size, List.length_cons]; omega) ?_)
    have e : (bt (ofL (b :: r)) 0 == 33) = bangL (b :: r) := by
      rw [ofL_bt, Bool.eq_iff_iff]
      unfold bangL
      simp only [beq_iff_eq, List.head?_cons, decide_eq_true_eq, Option.some.injEq]
      exact u8_int (b := 33)
    rw [e]
    exact main
theorem spec_name_loop (g : List UInt8 → Bool) (q t : List UInt8) (hq : 1 ≤ q.length) (ht : t.length ≤ 16777216) (hg : ∀ i ≤ t.length, Ev (fun k => spec_l6Name.f k (ofL (q.drop 1)) (ofL (t.drop i))) (g (t.drop i))) (d : Nat) :
    ∀ i : Nat, i + d = t.length → Ev (fun k => spec_l6Name.l0 k (ofL q) (ofL t) (i : Int)) (anyD g (t.drop i)) := by
  induction d with
  | zero =>
    intro i hi
    have h := hg i (by omega)
    have hn : wrap64 ((i : Int) + 1) = ((i + 1 : Nat) : Int) := by rw [wrap64_id (by omega) (by omega)]; omega
    have hd : t.drop i = [] := List.drop_eq_nil_of_le (by omega)
    refine Ev.succ ?_
    simp only [spec_l6Name.l0, ofL_size, show (i : Int) ≤ (t.length : Int) by omega, show (0 : Int) ≤ (i : Int) by omega, show (1 : Int) ≤ (q.length : Int) by omega, if_true, Int.toNat_natCast, ofL_end]
    refine Ev.bind h ?_
    rw [hd]
    show Ev _ (g [])
    cases g [] with
    | true => simpa using Ev.some
    | false =>
      simp only [Bool.false_eq_true, if_false, hn]
      refine Ev.succ ?_
      simp only [spec_l6Name.l0, ofL_size, show ¬ ((i + 1 : Nat) : Int) ≤ (t.length : Int) by omega, if_false]
      exact Ev.some
  | succ d ih =>
    intro i hi
    have h := hg i (by omega)
    have hn : wrap64 ((i : Int) + 1) = ((i + 1 : Nat) : Int) := by rw [wrap64_id (by omega) (by omega)]; omega
    refine Ev.succ ?_
    simp only [spec_l6Name.l0, ofL_size, show (i : Int) ≤ (t.length : Int) by omega, show (0 : Int) ≤ (i : Int) by omega, show (1 : Int) ≤ (q.length : Int) by omega, if_true, Int.toNat_natCast, ofL_end]
    refine Ev.bind h ?_
    rw [drop_get (show i < t.length by omega)]
    show Ev _ (g (t[i] :: t.drop (i + 1)) || anyD g (t.drop (i + 1)))
    cases g (t[i] :: t.drop (i + 1)) with
    | true => simpa using Ev.some
    | false =>
      simp only [Bool.false_eq_true, if_false, hn, Bool.false_or]
      exact ih (i + 1) (by omega)
theorem spec_name (f : Nat) : ∀ p t : List UInt8, p.length < f → UV p → p.length ≤ 16777216 → t.length ≤ 16777216 → Ev (fun k => spec_l6Name.f k (ofL p) (ofL t)) (nameMF f p t) := by
  induction f with
  | zero => intro p t h; omega
  | succ f ih =>
    intro p t hf hv hp ht
    refine Ev.succ ?_
    simp only [spec_l6Name.f, ofL_toList, nameMF]
    cases p with
    | nil =>
      simp only [if_true]
      exact Ev.some
    | cons b q =>
      obtain ⟨h0, hv'⟩ := hv.next (by simp)
      have hu := unitN_le (b :: q)
      have hl' : ((b :: q).drop (unitN (b :: q))).length < f := by rw [List.length_drop]; omega
      have hl2 : ((b :: q).drop (unitN (b :: q))).length ≤ 16777216 := by rw [List.length_drop]; omega
      have hlc : (b :: q).length = q.length + 1 := List.length_cons
      have hq0 : (0 : Int) < (((b :: q).length : Nat) : Int) := by omega
      have hq1 : (1 : Int) ≤ (((b :: q).length : Nat) : Int) := by omega
      have hend : (ofL (b :: q)).extract 1 (b :: q).length = ofL q := ofL_end (b :: q) 1
      refine Ev.no (by simp) ?_
      rw [if_neg (by simp)]
      refine Ev.succ ?_
      simp only [spec_l6Name.j0, ofL_size, hq0, if_true, ofL_bt]
      by_cases e42 : b = 42
      · subst e42
        have hu1 : unitN (42 :: q) = 1 := unit_one (by decide) h0
        refine Ev.yes rfl ?_
        rw [hu1] at hl' hv' hl2 ⊢
        rw [show (42 :: q).take 1 = [42] from rfl, if_pos rfl]
        rw [show (42 :: q).drop 1 = q from rfl] at *
        have := spec_name_loop (nameMF f q) (42 :: q) t (by simp) ht (fun i hi => ih q _ hl' hv' hl2 (by rw [List.length_drop]; omega)) t.length 0 (by omega)
        rw [List.drop_zero] at this
        exact this
      · refine Ev.no (fun h => e42 (u8_int (b := 42) |>.1 h)) ?_
        have hst : ¬ (b :: q).take (unitN (b :: q)) = [42] := by
          obtain ⟨m, hm⟩ : ∃ m, unitN (b :: q) = m + 1 := ⟨unitN (b :: q) - 1, by omega⟩
          rw [hm, List.take_succ_cons]
          intro e
          exact e42 (List.cons.inj e).1
        rw [if_neg hst]
        refine Ev.succ ?_
        simp only [spec_l6Name.j2, ofL_toList]
        cases t with
        | nil =>
          refine Ev.yes rfl ?_
          exact Ev.some
        | cons c r =>
          refine Ev.no (by simp) ?_
          have htl : r.length ≤ 16777216 := by simp at ht; omega
          have hr0 : (0 : Int) < (((c :: r).length : Nat) : Int) := by rw [List.length_cons]; omega
          have hr1 : (1 : Int) ≤ (((c :: r).length : Nat) : Int) := by rw [List.length_cons]; omega
          have hendr : (ofL (c :: r)).extract 1 (c :: r).length = ofL r := ofL_end (c :: r) 1
          refine Ev.succ ?_
          simp only [spec_l6Name.j3, ofL_size, hq0, hq1, hr0, hr1, if_true, ofL_bt, hend, hendr]
          by_cases e91 : b = 91
          · subst e91
            obtain ⟨hc0, hun⟩ := unit_cls h0
            obtain ⟨hcc, hc1⟩ := cls_in hc0
            have hcl := clsN_le q
            refine Ev.no (by decide) (Ev.yes rfl ?_)
            have hsc := spec_class (ofL (91 :: q)) (by rw [ofL_size]; exact hp) 0 (by rw [ofL_size, hlc]; omega)
            rw [data_ofL, show (91 :: q).drop (0 + 1) = q from rfl, if_neg hc0, show ((0 : Nat) : Int) = 0 from rfl, Nat.zero_add] at hsc
            refine Ev.bind hsc ?_
            have hw : wrap64 (((1 + clsN q : Nat) : Int) - 1) = ((clsN q : Nat) : Int) := by rw [wrap64_id (by omega) (by omega)]; omega
            simp only [hw, show (1 : Int) ≤ ((clsN q : Nat) : Int) by omega, show ((clsN q : Nat) : Int) ≤ ((91 :: q).length : Int) by omega, if_true, Int.toNat_natCast, show (0 : Int) ≤ ((1 + clsN q : Nat) : Int) by omega, show ((1 + clsN q : Nat) : Int) ≤ ((91 :: q).length : Int) by omega]
            rw [ofL_ext, show (91 :: q).drop 1 = q from rfl]
            refine Ev.bind (spec_takes (q.take (clsN q - 1)) (by rw [List.length_take]; omega) c hcc) ?_
            have htk : takesU ((91 :: q).take (unitN (91 :: q))) c = clsT (q.take (clsN q - 1)) c := by
              rw [hun, Nat.add_comm, List.take_succ_cons]
              have hlen : (91 :: q.take (clsN q)).length = clsN q + 1 := by rw [List.length_cons, List.length_take]; omega
              unfold takesU
              rw [if_neg (fun e => by have := (List.cons.inj e).1; exact absurd this (by decide)), if_neg (by omega), hlen, List.drop_one, List.tail_cons, show clsN q + 1 - 2 = clsN q - 1 by omega, List.take_take, Nat.min_eq_left (by omega)]
            rw [htk]
            cases clsT (q.take (clsN q - 1)) c with
            | false =>
              simp only [Bool.false_eq_true, if_false, Bool.false_and]
              exact Ev.some
            | true =>
              simp only [if_true, Bool.true_and]
              rw [hun] at hl' hv' hl2 ⊢
              rw [ofL_end]
              refine Ev.bind (ih _ r hl' hv' hl2 htl) ?_
              exact Ev.some
          · have hu1 : unitN (b :: q) = 1 := unit_one e91 h0
            rw [hu1] at hl' hv' hl2 ⊢
            rw [show (b :: q).take 1 = [b] from rfl]
            rw [show (b :: q).drop 1 = q from rfl] at *
            by_cases e63 : b = 63
            · subst e63
              refine Ev.yes rfl ?_
              rw [show takesU [63] c = true from rfl, Bool.true_and]
              refine Ev.bind (ih _ r hl' hv' hl2 htl) ?_
              exact Ev.some
            · refine Ev.no (fun h => e63 (u8_int (b := 63) |>.1 h)) (Ev.no (fun h => e91 (u8_int (b := 91) |>.1 h)) ?_)
              have htk : takesU [b] c = decide (b = c) := by
                unfold takesU
                rw [if_neg (fun e => e63 (List.cons.inj e).1), if_pos (show [b].length = 1 from rfl), Bool.eq_iff_iff]
                simp
              rw [htk]
              by_cases ebc : b = c
              · refine Ev.yes (u8_int.2 ebc) ?_
                rw [decide_eq_true ebc, Bool.true_and]
                refine Ev.bind (ih _ r hl' hv' hl2 htl) ?_
                exact Ev.some
              · refine Ev.no (fun h => ebc (u8_int.1 h)) ?_
                rw [decide_eq_false ebc, Bool.false_and]
                exact Ev.some

def nameB (p t : ByteArray) : Bool := nameMF (p.size + 1) p.data.toList t.data.toList
theorem spec_nameB (p t : ByteArray) (h : pieceB p = true) (hp : p.size ≤ 8388608) (ht : t.size ≤ 8388608) : Ev (fun k => spec_l6Name.f k p t) (nameB p t) := by
  have := spec_name (p.size + 1) p.data.toList t.data.toList (by simp) (UV.ofB h) (by simp; omega) (by simp; omega)
  rwa [ofL_data, ofL_data] at this
theorem impl_nameB (p t : ByteArray) (h : pieceB p = true) (hp : p.size ≤ 8388608) (ht : t.size ≤ 8388608) : Ev (fun k => impl_pieceTakes.f k p t) (nameB p t) := by
  have := impl_name (p.size + 1) p.data.toList t.data.toList (by simp) (UV.ofB h) (by simp; omega) (by simp; omega)
  rwa [ofL_data, ofL_data] at this
/-- The pieces of a pattern, held against the names of a path. -/
def globM : List ByteArray → List ByteArray → Bool
  | [], ts => ts.length == 0
  | p :: ps, ts => if p.toList = ([42, 42] : List UInt8) then anyD (globM ps) ts else match ts with
    | [] => false
    | t :: r => nameB p t && globM ps r
theorem len0 {α : Type} (l : List α) : ((l.length : Int) == 0) = (l.length == 0) := by
  rw [Bool.eq_iff_iff]
  simp
theorem spec_all_loop (g : List ByteArray → Bool) (q t : List ByteArray) (hq : 1 ≤ q.length) (ht : t.length ≤ 16777216) (hg : ∀ i ≤ t.length, Ev (fun k => spec_l6All.f k (q.drop 1) (t.drop i)) (g (t.drop i))) (d : Nat) :
    ∀ i : Nat, i + d = t.length → Ev (fun k => spec_l6All.l0 k q t (i : Int)) (anyD g (t.drop i)) := by
  induction d with
  | zero =>
    intro i hi
    have h := hg i (by omega)
    have hn : wrap64 ((i : Int) + 1) = ((i + 1 : Nat) : Int) := by rw [wrap64_id (by omega) (by omega)]; omega
    have hd : t.drop i = [] := List.drop_eq_nil_of_le (by omega)
    refine Ev.succ ?_
    simp only [spec_l6All.l0, show (i : Int) ≤ (t.length : Int) by omega, show (0 : Int) ≤ (i : Int) by omega, show (1 : Int) ≤ (q.length : Int) by omega, if_true, Int.toNat_natCast]
    refine Ev.bind h ?_
    rw [hd]
    show Ev _ (g [])
    cases g [] with
    | true => simpa using Ev.some
    | false =>
      simp only [Bool.false_eq_true, if_false, hn]
      refine Ev.succ ?_
      simp only [spec_l6All.l0, show ¬ ((i + 1 : Nat) : Int) ≤ (t.length : Int) by omega, if_false]
      exact Ev.some
  | succ d ih =>
    intro i hi
    have h := hg i (by omega)
    have hn : wrap64 ((i : Int) + 1) = ((i + 1 : Nat) : Int) := by rw [wrap64_id (by omega) (by omega)]; omega
    refine Ev.succ ?_
    simp only [spec_l6All.l0, show (i : Int) ≤ (t.length : Int) by omega, show (0 : Int) ≤ (i : Int) by omega, show (1 : Int) ≤ (q.length : Int) by omega, if_true, Int.toNat_natCast]
    refine Ev.bind h ?_
    rw [drop_get (show i < t.length by omega)]
    show Ev _ (g (t[i] :: t.drop (i + 1)) || anyD g (t.drop (i + 1)))
    cases g (t[i] :: t.drop (i + 1)) with
    | true => simpa using Ev.some
    | false =>
      simp only [Bool.false_eq_true, if_false, hn, Bool.false_or]
      exact ih (i + 1) (by omega)
theorem impl_all_loop (g : List ByteArray → Bool) (q t : List ByteArray) (hq : 1 ≤ q.length) (ht : t.length ≤ 16777216) (hg : ∀ i ≤ t.length, Ev (fun k => impl_globTakes.f k (q.drop 1) (t.drop i)) (g (t.drop i))) (d : Nat) :
    ∀ i : Nat, i + d = t.length → Ev (fun k => impl_globTakes.l0 k q t ((t.length + 1 : Nat) : Int) (i : Int)) (anyD g (t.drop i)) := by
  induction d with
  | zero =>
    intro i hi
    have h := hg i (by omega)
    have hn : wrap64 ((i : Int) + 1) = ((i + 1 : Nat) : Int) := by rw [wrap64_id (by omega) (by omega)]; omega
    have hd : t.drop i = [] := List.drop_eq_nil_of_le (by omega)
    refine Ev.succ ?_
    simp only [impl_globTakes.l0, show (i : Int) < ((t.length + 1 : Nat) : Int) by omega, show (i : Int) ≤ (t.length : Int) by omega, show (0 : Int) ≤ (i : Int) by omega, show (1 : Int) ≤ (q.length : Int) by omega, if_true, Int.toNat_natCast]
    refine Ev.bind h ?_
    rw [hd]
    show Ev _ (g [])
    cases g [] with
    | true => simpa using Ev.some
    | false =>
      simp only [Bool.false_eq_true, if_false, hn]
      refine Ev.succ ?_
      simp only [impl_globTakes.l0, show ¬ ((i + 1 : Nat) : Int) < ((t.length + 1 : Nat) : Int) by omega, if_false]
      exact Ev.some
  | succ d ih =>
    intro i hi
    have h := hg i (by omega)
    have hn : wrap64 ((i : Int) + 1) = ((i + 1 : Nat) : Int) := by rw [wrap64_id (by omega) (by omega)]; omega
    refine Ev.succ ?_
    simp only [impl_globTakes.l0, show (i : Int) < ((t.length + 1 : Nat) : Int) by omega, show (i : Int) ≤ (t.length : Int) by omega, show (0 : Int) ≤ (i : Int) by omega, show (1 : Int) ≤ (q.length : Int) by omega, if_true, Int.toNat_natCast]
    refine Ev.bind h ?_
    rw [drop_get (show i < t.length by omega)]
    show Ev _ (g (t[i] :: t.drop (i + 1)) || anyD g (t.drop (i + 1)))
    cases g (t[i] :: t.drop (i + 1)) with
    | true => simpa using Ev.some
    | false =>
      simp only [Bool.false_eq_true, if_false, hn, Bool.false_or]
      exact ih (i + 1) (by omega)
theorem spec_all (ps : List ByteArray) : ∀ ts : List ByteArray, (∀ p ∈ ps, pieceB p = true ∧ p.size ≤ 8388608) → (∀ t ∈ ts, t.size ≤ 8388608) → ts.length ≤ 16777216 → Ev (fun k => spec_l6All.f k ps ts) (globM ps ts) := by
  induction ps with
  | nil =>
    intro ts _ _ _
    refine Ev.succ ?_
    simp only [spec_l6All.f, List.length_nil, show (((0 : Nat) : Int) = 0) from rfl, if_true, globM]
    exact Ev.cast Ev.some (len0 ts)
  | cons p ps ih =>
    intro ts hp ht hl
    have hp' : ∀ q ∈ ps, pieceB q = true ∧ q.size ≤ 8388608 := fun q hq => hp q (by simp [hq])
    have hc0 : (0 : Int) < ((p :: ps).length : Int) := by rw [List.length_cons]; omega
    have hc1 : (1 : Int) ≤ ((p :: ps).length : Int) := by omega
    refine Ev.succ ?_
    simp only [spec_l6All.f, show ¬ (((p :: ps).length : Int) = 0) by omega, if_false]
    refine Ev.succ ?_
    simp only [spec_l6All.j0, hc0, hc1, if_true, show rdOf ByteArray.empty (p :: ps) 0 = p from rfl, show (p :: ps).drop 1 = ps from rfl]
    rw [globM.eq_def]
    simp only
    by_cases hst : p.toList = ([42, 42] : List UInt8)
    · simp only [hst, if_true]
      have := spec_all_loop (globM ps) (p :: ps) ts (by simp) hl (fun i hi => ih _ hp' (fun t h => ht t (List.mem_of_mem_drop h)) (by rw [List.length_drop]; omega)) ts.length 0 (by omega)
      rw [List.drop_zero] at this
      exact this
    · simp only [hst, if_false]
      cases ts with
      | nil =>
        refine Ev.no (by simp) ?_
        exact Ev.some
      | cons t r =>
        have ht0 : (0 : Int) < ((t :: r).length : Int) := by rw [List.length_cons]; omega
        refine Ev.yes (by omega) (Ev.yes (by omega) ?_)
        simp only [show rdOf ByteArray.empty (t :: r) 0 = t from rfl, show (t :: r).drop 1 = r from rfl, show (1 : Int) ≤ ((t :: r).length : Int) by omega, if_true]
        refine Ev.bind (spec_nameB p t (hp p (by simp)).1 (hp p (by simp)).2 (ht t (by simp))) ?_
        cases nameB p t with
        | false =>
          simp only [Bool.false_eq_true, if_false, Bool.false_and]
          exact Ev.some
        | true =>
          simp only [if_true, Bool.true_and]
          refine Ev.bind (ih r hp' (fun x h => ht x (by simp [h])) (by simp at hl; omega)) ?_
          exact Ev.some
theorem impl_all (ps : List ByteArray) : ∀ ts : List ByteArray, (∀ p ∈ ps, pieceB p = true ∧ p.size ≤ 8388608) → (∀ t ∈ ts, t.size ≤ 8388608) → ts.length ≤ 16777216 → Ev (fun k => impl_globTakes.f k ps ts) (globM ps ts) := by
  induction ps with
  | nil =>
    intro ts _ _ _
    refine Ev.succ ?_
    simp only [impl_globTakes.f, List.length_nil, show (((0 : Nat) : Int) = 0) from rfl, if_true, globM]
    exact Ev.cast Ev.some (len0 ts)
  | cons p ps ih =>
    intro ts hp ht hl
    have hp' : ∀ q ∈ ps, pieceB q = true ∧ q.size ≤ 8388608 := fun q hq => hp q (by simp [hq])
    have hc0 : (0 : Int) < ((p :: ps).length : Int) := by rw [List.length_cons]; omega
    have hc1 : (1 : Int) ≤ ((p :: ps).length : Int) := by omega
    refine Ev.succ ?_
    simp only [impl_globTakes.f, show ¬ (((p :: ps).length : Int) = 0) by omega, if_false]
    refine Ev.succ ?_
    simp only [impl_globTakes.j0, hc0, hc1, if_true, show rdOf ByteArray.empty (p :: ps) 0 = p from rfl, show (p :: ps).drop 1 = ps from rfl]
    rw [globM.eq_def]
    simp only
    by_cases hst : p.toList = ([42, 42] : List UInt8)
    · simp only [hst, if_true]
      have := impl_all_loop (globM ps) (p :: ps) ts (by simp) hl (fun i hi => ih _ hp' (fun t h => ht t (List.mem_of_mem_drop h)) (by rw [List.length_drop]; omega)) ts.length 0 (by omega)
      rw [List.drop_zero] at this
      rw [show wrap64 ((ts.length : Int) + 1) = ((ts.length + 1 : Nat) : Int) from by rw [wrap64_id (by omega) (by omega)]; omega]
      exact this
    · simp only [hst, if_false]
      cases ts with
      | nil =>
        refine Ev.no (by simp) ?_
        exact Ev.some
      | cons t r =>
        have ht0 : (0 : Int) < ((t :: r).length : Int) := by rw [List.length_cons]; omega
        refine Ev.yes (by omega) (Ev.yes (by omega) ?_)
        simp only [show rdOf ByteArray.empty (t :: r) 0 = t from rfl, show (t :: r).drop 1 = r from rfl, show (1 : Int) ≤ ((t :: r).length : Int) by omega, if_true]
        refine Ev.bind (impl_nameB p t (hp p (by simp)).1 (hp p (by simp)).2 (ht t (by simp))) ?_
        cases nameB p t with
        | false =>
          simp only [Bool.false_eq_true, if_false, Bool.false_and]
          exact Ev.some
        | true =>
          simp only [if_true, Bool.true_and]
          refine Ev.bind (ih r hp' (fun x h => ht x (by simp [h])) (by simp at hl; omega)) ?_
          exact Ev.some
def matchB (g p : ByteArray) : Bool := globB g && (pathB p && globM (piecesB g slash) (piecesB p slash))
theorem glob_all {g : ByteArray} (hg : g.size ≤ 8388608) (h : globB g = true) : ∀ p ∈ piecesB g slash, pieceB p = true ∧ p.size ≤ 8388608 := by
  intro p hp
  unfold globB at h
  simp only [Bool.and_eq_true, List.all_eq_true] at h
  exact ⟨h.1 p hp, (slash_small hg).2 p hp⟩
theorem spec_matches (g p : ByteArray) (hg : g.size ≤ 8388608) (hp : p.size ≤ 8388608) : Ev (fun k => spec_Matches.f k g p) (matchB g p) := by
  unfold spec_Matches.f matchB
  refine Ev.bind (spec_glob g hg) ?_
  cases hgb : globB g with
  | false => simpa using Ev.some
  | true =>
    simp only [if_true, Bool.true_and]
    refine Ev.bind (spec_path p (by omega)) ?_
    cases hpb : pathB p with
    | false => simpa using Ev.some
    | true =>
      simp only [if_true, Bool.true_and]
      refine Ev.bind (spec_split g 47 (by omega)) (Ev.bind (spec_split p 47 (by omega)) ?_)
      refine Ev.bind (spec_all _ _ (glob_all hg hgb) (slash_small hp).2 (by have := pieces_length (s := p) (sep := slash) (Nat.le_refl _); show (piecesB p slash).length ≤ _; omega)) ?_
      exact Ev.some
theorem impl_matches (g p : ByteArray) (hg : g.size ≤ 8388608) (hp : p.size ≤ 8388608) : Ev (fun k => impl_Matches.f k g p) (matchB g p) := by
  unfold impl_Matches.f matchB
  refine Ev.bind (impl_glob g hg) ?_
  cases hgb : globB g with
  | false => simpa using Ev.some
  | true =>
    simp only [if_true, Bool.true_and]
    refine Ev.bind (impl_path p (by omega)) ?_
    cases hpb : pathB p with
    | false => simpa using Ev.some
    | true =>
      simp only [if_true, Bool.true_and]
      rw [strings_split g 47 (by omega), strings_split p 47 (by omega)]
      simp only [Option.bind_some]
      refine Ev.bind (impl_all _ _ (glob_all hg hgb) (slash_small hp).2 (by have := pieces_length (s := p) (sep := slash) (Nat.le_refl _); show (piecesB p slash).length ≤ _; omega)) ?_
      exact Ev.some
end Go.Proofs.YtbjgmbhkofgjaaaDoor.Pure
/- What Picked comes to, of the reference and of the program. -/
namespace Go.Proofs.YtbjgmbhkofgjaaaDoor.Pure
open Go.RowKit Go.Proofs.YtbjgmbhkofgjaaaDoor.PGA Go.Proofs.YtbjgmbhkofgjaaaDoorW.PrintWords Go.Proofs.YtbjgmbhkofgjaaaDoorW.PrintLast Go.Proofs.YtbjgmbhkofgjaaaDoor.Aux

section
variable (gs : List ByteArray)
def picksF (x : S44) : Bool := gs.any fun g => matchB g x.f0
def pickL (l : List S44) : List S44 := l.filter (picksF gs)
variable (hgs : gs.length ≤ 16777216) (hgs' : ∀ g ∈ gs, g.size ≤ 8388608)
include hgs hgs'
theorem impl_pick_in (l : List S44) (i : Nat) (hi : i < l.length) (hl : l.length ≤ 16777216) (x : S44) (hx : x.f0.size ≤ 8388608) (out : List S44) (ho : out.length ≤ 16777216) (R : List S44) (d : Nat) :
    ∀ j : Nat, j + d = gs.length → Ev (fun k => impl_Picked.l0 k gs (if (gs.drop j).any (fun g => matchB g x.f0) = true then out ++ [x] else out) l (l.length : Int) ((i + 1 : Nat) : Int)) R →
    Ev (fun k => impl_Picked.l1 k gs out l (l.length : Int) (i : Int) gs (gs.length : Int) (j : Int) x.f0 x.f1) R := by
  have h3i := next_i hi (by omega)
  induction d with
  | zero =>
    intro j hj hk
    rw [List.drop_eq_nil_of_le (by omega)] at hk
    refine Ev.succ ?_
    simp only [impl_Picked.l1, show ¬ (j : Int) < (gs.length : Int) by omega, if_false, h3i]
    simpa using hk
  | succ d ih =>
    intro j hj hk
    have hlt : j < gs.length := by omega
    have h3 := next_i hlt (by omega)
    rw [drop_get hlt, List.any_cons] at hk
    refine Ev.succ ?_
    simp only [impl_Picked.l1, show (j : Int) < (gs.length : Int) by omega, show (0 : Int) ≤ (j : Int) by omega, if_true, h3i, h3, rdOf_cast _ hlt]
    refine Ev.bind (impl_matches gs[j] x.f0 (hgs' _ (List.getElem_mem hlt)) hx) ?_
    cases hm : matchB gs[j] x.f0 with
    | true =>
      rw [hm, Bool.true_or, if_pos rfl] at hk
      simp only [if_true, show out.length < 4398046511104 by omega]
      exact hk
    | false =>
      rw [hm, Bool.false_or] at hk
      simp only [Bool.false_eq_true, if_false]
      exact ih (j + 1) (by omega) hk
theorem impl_pick_l (l : List S44) (hl : l.length ≤ 16777216) (hl' : ∀ x ∈ l, x.f0.size ≤ 8388608) (d : Nat) :
    ∀ (i : Nat) (out : List S44), i + d = l.length → out.length ≤ i → out ++ pickL gs (l.drop i) = pickL gs l → Ev (fun k => impl_Picked.l0 k gs out l (l.length : Int) (i : Int)) (pickL gs l) := by
  induction d with
  | zero =>
    intro i out hi ho he
    rw [List.drop_eq_nil_of_le (by omega), show pickL gs [] = [] from rfl, List.append_nil] at he
    refine Ev.succ ?_
    simp only [impl_Picked.l0, show ¬ (i : Int) < (l.length : Int) by omega, if_false, he]
    exact Ev.some
  | succ d ih =>
    intro i out hi ho he
    have hlt : i < l.length := by omega
    have hgi : rd_T44 l (i : Int) = l[i] := rdD_cast _ hlt
    refine Ev.succ ?_
    simp only [impl_Picked.l0, show (i : Int) < (l.length : Int) by omega, if_true]
    refine Ev.succ ?_
    simp only [impl_Picked.j1, show (i : Int) < (l.length : Int) by omega, show (0 : Int) ≤ (i : Int) by omega, if_true, hgi]
    refine impl_pick_in gs hgs hgs' l i hlt hl l[i] (hl' _ (List.getElem_mem hlt)) out (by omega) _ gs.length 0 (by omega) ?_
    rw [List.drop_zero]
    refine ih (i + 1) _ (by omega) (by split <;> (try simp) <;> omega) ?_
    rw [← he, drop_get hlt]
    unfold pickL
    rw [List.filter_cons]
    show _ = out ++ if picksF gs l[i] = true then _ else _
    unfold picksF
    split <;> simp
theorem impl_picked (l : List S44) (hl : l.length ≤ 16777216) (hl' : ∀ x ∈ l, x.f0.size ≤ 8388608) : Ev (fun k => impl_Picked.f k l gs) (pickL gs l) := by
  unfold impl_Picked.f
  exact impl_pick_l gs hgs hgs' l hl hl' l.length 0 [] (by omega) (by simp) (by simp)
end
end Go.Proofs.YtbjgmbhkofgjaaaDoor.Pure
/- What Join comes to, of the reference and of the program. -/
namespace Go.Proofs.YtbjgmbhkofgjaaaDoor.Pure
open Go.RowKit Go.Proofs.YtbjgmbhkofgjaaaDoor.PGA Go.Proofs.YtbjgmbhkofgjaaaDoorW.PrintWords Go.Proofs.YtbjgmbhkofgjaaaDoorW.PrintLast Go.Proofs.YtbjgmbhkofgjaaaDoor.Aux

def dats (l : List ByteArray) : List (List UInt8) := l.map (·.data.toList)
def joinB (l : List ByteArray) (sep : ByteArray) : ByteArray := ofL (Lib.join (dats l) sep.data.toList)
/-- How many bytes it takes at most. -/
def joinN (l : List ByteArray) (sep : ByteArray) : Nat := sep.size * l.length + Lib.lens (dats l)
theorem lens_szT : ∀ l : List ByteArray, (Lib.lens (dats l) : Int) = szT l
  | [] => rfl
  | x :: r => by
    have := lens_szT r
    simp only [Lib.lens, dats, List.map_cons, List.sum_cons, szT] at this ⊢
    rw [← this]
    simp
theorem joinB_size (l : List ByteArray) (sep : ByteArray) : (joinB l sep).size ≤ joinN l sep := by
  unfold joinB joinN
  rw [ofL_size]
  cases l with
  | nil => simp [dats, Lib.join_nil]
  | cons x r =>
    rw [show dats (x :: r) = x.data.toList :: dats r from rfl, Lib.join_length]
    have h1 : (dats r).length = r.length := by simp [dats]
    have h2 : sep.data.toList.length = sep.size := by simp
    rw [h1, h2, List.length_cons, Nat.mul_succ]
    omega
end Go.Proofs.YtbjgmbhkofgjaaaDoor.Pure
/- What is split comes back joined; what a text is cut into at a byte. -/
namespace Go.Proofs.YtbjgmbhkofgjaaaDoor.Pure
open Go.RowKit Go.Proofs.YtbjgmbhkofgjaaaDoor.PGA Go.Proofs.YtbjgmbhkofgjaaaDoorW.PrintWords Go.Proofs.YtbjgmbhkofgjaaaDoorW.PrintLast Go.Proofs.YtbjgmbhkofgjaaaDoor.Aux

theorem join_two (x y : List UInt8) (r : List (List UInt8)) (sep : List UInt8) : Lib.join (x :: y :: r) sep = x ++ sep ++ Lib.join (y :: r) sep := by
  rw [Lib.join_cons, Lib.join_cons]
  simp [Lib.joinTail, List.append_assoc]
theorem join_glue (u : List UInt8) (sep : List UInt8) : ∀ l : List (List UInt8), Lib.join (glue u l) sep = u ++ Lib.join l sep
  | [] => by simp [glue, Lib.join_one, Lib.join_nil]
  | p :: ps => by rw [glue, Lib.join_cons, Lib.join_cons, List.append_assoc]
theorem join_split (c : UInt8) : ∀ l : List UInt8, Lib.join (Lib.split l [c]) [c] = l
  | [] => by rw [split_nil (by simp), Lib.join_one]
  | b :: l => by
    have ih := join_split c l
    by_cases h : b = c
    · subst h
      rw [split_one_at]
      cases hs : Lib.split l [b] with
      | nil => exact absurd hs (split_ne _ _)
      | cons y r =>
        rw [hs] at ih
        rw [join_two, ih]
        rfl
    · rw [split_one_by _ h, join_glue, ih]
      rfl
theorem dats_pieces (s sep : ByteArray) : dats (piecesB s sep) = Lib.split s.data.toList sep.data.toList := by
  unfold dats piecesB
  rw [List.map_map]
  conv => rhs; rw [← List.map_id (Lib.split s.data.toList sep.data.toList)]
  exact List.map_congr_left (fun x _ => data_ofL x)
theorem joinB_pieces (s : ByteArray) (c : UInt8) : joinB (piecesB s ⟨#[c]⟩) ⟨#[c]⟩ = s := by
  unfold joinB
  rw [dats_pieces, show (⟨#[c]⟩ : ByteArray).data.toList = [c] from rfl, join_split, ofL_data]
theorem joinN_size {l : List ByteArray} {sep : ByteArray} (h : l ≠ []) : joinN l sep = sep.size + (joinB l sep).size := by
  cases l with
  | nil => exact absurd rfl h
  | cons x r =>
    unfold joinN joinB
    rw [ofL_size, show dats (x :: r) = x.data.toList :: dats r from rfl, Lib.join_cons, List.length_append, Lib.joinTail_length]
    have h1 : (dats r).length = r.length := by simp [dats]
    have h2 : sep.data.toList.length = sep.size := by simp
    simp only [Lib.lens, List.map_cons, List.sum_cons, h1, h2, List.length_cons, Nat.mul_succ]
    omega
theorem pieces_ne (s sep : ByteArray) : piecesB s sep ≠ [] := by
  unfold piecesB
  simp [split_ne]
theorem joinN_pieces (s : ByteArray) (c : UInt8) : joinN (piecesB s ⟨#[c]⟩) ⟨#[c]⟩ = s.size + 1 := by
  rw [joinN_size (pieces_ne _ _), joinB_pieces, show (⟨#[c]⟩ : ByteArray).size = 1 from rfl]
  omega

/-- The first place of a byte; the text's length where there is none. -/
def at1 (c : UInt8) (l : List UInt8) : Nat := l.findIdx (· == c)
theorem at1_nil (c : UInt8) : at1 c [] = 0 := rfl
theorem at1_hit (c : UInt8) (l : List UInt8) : at1 c (c :: l) = 0 := by simp [at1, List.findIdx_cons]
theorem at1_miss {b c : UInt8} (h : ¬ b = c) (l : List UInt8) : at1 c (b :: l) = at1 c l + 1 := by
  unfold at1
  rw [List.findIdx_cons, show (b == c) = false from by simpa using h]
  rfl
theorem at1_le (c : UInt8) (l : List UInt8) : at1 c l ≤ l.length := List.findIdx_le_length
theorem index_one (c : UInt8) : ∀ l : List UInt8, Lib.index l [c] = if at1 c l < l.length then (at1 c l : Int) else -1
  | [] => rfl
  | b :: l => by
    have ih := index_one c l
    by_cases h : b = c
    · subst h
      rw [Lib.index, at1_hit]
      simp [List.isPrefixOf]
    · have hp : [c].isPrefixOf (b :: l) = false := by
        unfold List.isPrefixOf
        rw [show (c == b) = false from by simpa using fun e => h e.symm]
        rfl
      rw [Lib.index, hp, at1_miss h, ih, List.length_cons]
      simp only [Bool.false_eq_true, if_false]
      by_cases hl : at1 c l < l.length
      · have hq : ¬ ((at1 c l : Int) == -1) = true := fun e => by have := beq_iff_eq.1 e; omega
        simp only [hl, if_true, if_neg hq, show at1 c l + 1 < l.length + 1 by omega]
        omega
      · simp [hl]
def headB (c : UInt8) (s : ByteArray) : ByteArray := ofL (s.data.toList.take (at1 c s.data.toList))
def tailB (c : UInt8) (s : ByteArray) : ByteArray := ofL (s.data.toList.drop (at1 c s.data.toList + 1))
def hasB (c : UInt8) (s : ByteArray) : Bool := decide (at1 c s.data.toList < s.data.toList.length)
theorem headB_size (c : UInt8) (s : ByteArray) : (headB c s).size ≤ s.size := by
  unfold headB
  rw [ofL_size, List.length_take]
  have : s.data.toList.length = s.size := by simp
  omega
theorem tailB_size (c : UInt8) (s : ByteArray) : (tailB c s).size ≤ s.size := by
  unfold tailB
  rw [ofL_size, List.length_drop]
  have : s.data.toList.length = s.size := by simp
  omega
theorem at1_get (c : UInt8) : ∀ l : List UInt8, at1 c l < l.length → l = l.take (at1 c l) ++ c :: l.drop (at1 c l + 1)
  | [], h => absurd h (by simp)
  | b :: l, h => by
    by_cases e : b = c
    · subst e
      rw [at1_hit]
      rfl
    · rw [at1_miss e] at h ⊢
      have := at1_get c l (by simpa using h)
      simp only [List.take_succ_cons, List.drop_succ_cons, List.cons_append]
      exact congrArg (b :: ·) this
theorem head_has {c : UInt8} {s : ByteArray} (h : hasB c s = true) : headB c s ++ (⟨#[c]⟩ ++ tailB c s) = s := by
  have h1 := at1_get c s.data.toList (by simpa [hasB] using h)
  rw [← ofL_data (headB c s ++ (⟨#[c]⟩ ++ tailB c s))]
  conv => rhs; rw [← ofL_data s, h1]
  unfold headB tailB
  simp [ofL]
theorem head_not {c : UInt8} {s : ByteArray} (h : hasB c s = false) : headB c s = s := by
  have h1 : ¬ at1 c s.data.toList < s.data.toList.length := by simpa [hasB] using h
  unfold headB
  rw [List.take_of_length_le (by omega), ofL_data]
theorem cut_one (c : UInt8) (s : ByteArray) : Lib.cut s.data.toList [c] = if hasB c s = true then ((headB c s).data.toList, (tailB c s).data.toList, true) else (s.data.toList, [], false) := by
  unfold Lib.cut headB tailB hasB
  rw [index_one, data_ofL, data_ofL]
  by_cases h : at1 c s.data.toList < s.data.toList.length
  · simp only [h, if_true, decide_true, show (0 : Int) ≤ (at1 c s.data.toList : Int) by omega, Int.toNat_natCast, List.length_cons, List.length_nil]
  · simp only [h, if_false, decide_false, Bool.false_eq_true, show ¬ (0 : Int) ≤ -1 by omega]
end Go.Proofs.YtbjgmbhkofgjaaaDoor.Pure
/- What the patterns of the law FnGlobs take. -/
namespace Go.Proofs.YtbjgmbhkofgjaaaDoor.Pure
open Go.RowKit Go.Proofs.YtbjgmbhkofgjaaaDoor.PGA Go.Proofs.YtbjgmbhkofgjaaaDoorW.PrintWords Go.Proofs.YtbjgmbhkofgjaaaDoorW.PrintLast Go.Proofs.YtbjgmbhkofgjaaaDoor.Aux

/-- A text of letters of a path alone. -/
def litL (l : List UInt8) : Prop := ∀ b ∈ l, pathC (b.toNat : Int) = true
theorem lit_ne {b : UInt8} (h : pathC (b.toNat : Int) = true) : b ≠ 42 ∧ b ≠ 63 ∧ b ≠ 91 ∧ b ≠ 47 := by
  refine ⟨fun e => ?_, fun e => ?_, fun e => ?_, fun e => ?_⟩ <;> (rw [e] at h; exact absurd h (by decide))
theorem lit_unit {b : UInt8} {r : List UInt8} (h : pathC (b.toNat : Int) = true) : unitN (b :: r) = 1 := by
  simp only [unitN]
  rw [if_pos (.inl h)]
theorem lit_units (f : Nat) : ∀ (l : List UInt8) (n : Int), l.length < f → litL l → unitsF f l n = inB (n + l.length) 1 12 := by
  induction f with
  | zero => intro l n h; omega
  | succ f ih =>
    intro l n h hl
    rw [unitsF]
    cases l with
    | nil => rw [if_pos rfl]; simp
    | cons b r =>
      rw [if_neg (by simp), lit_unit (hl b (by simp)), if_neg (by omega), List.drop_one, List.tail_cons, ih r (n + 1) (by simp at h; omega) (fun c hc => hl c (by simp [hc])), List.length_cons]
      congr 1
      omega
theorem lit_name (f : Nat) : ∀ (l t : List UInt8), l.length < f → litL l → nameMF f l t = (l == t) := by
  induction f with
  | zero => intro l t h; omega
  | succ f ih =>
    intro l t h hl
    cases l with
    | nil =>
      rw [nameMF.eq_def]
      simp only
      rw [if_pos trivial]
      cases t <;> rfl
    | cons b r =>
      obtain ⟨n1, n2, n3, _⟩ := lit_ne (hl b (by simp))
      rw [nameMF.eq_def]
      simp only
      rw [if_neg (by simp), lit_unit (hl b (by simp)), show (b :: r).take 1 = [b] from rfl, if_neg (fun e => n1 (List.cons.inj e).1), List.drop_one, List.tail_cons]
      cases t with
      | nil => rfl
      | cons c t =>
        have htk : takesU [b] c = (b == c) := by
          unfold takesU
          rw [if_neg (fun e => n2 (List.cons.inj e).1), if_pos (show [b].length = 1 from rfl)]
          rfl
        simp only [htk, ih r t (by simp at h; omega) (fun d hd => hl d (by simp [hd]))]
        rfl
theorem fname_lit {s : ByteArray} (h : fnameB s = true) : litL s.data.toList ∧ 1 ≤ s.size ∧ s.size ≤ 12 := by
  unfold fnameB nameEnd at h
  simp only [Bool.and_eq_true, List.all_eq_true] at h
  have h2 := h.2.1
  unfold inB at h2
  simp at h2
  refine ⟨fun b hb => h.1 _ (by unfold bs; exact List.mem_map.2 ⟨b, hb, rfl⟩), by omega, by omega⟩
theorem fname_piece {s : ByteArray} (h : fnameB s = true) : pieceB s = true := by
  obtain ⟨hl, h1, h2⟩ := fname_lit h
  unfold pieceB
  rw [lit_units _ _ _ (by simp) hl]
  unfold inB
  simp
  omega
theorem fname_name {s : ByteArray} (h : fnameB s = true) (t : ByteArray) : nameB s t = decide (s = t) := by
  obtain ⟨hl, h1, h2⟩ := fname_lit h
  unfold nameB
  rw [lit_name _ _ _ (by simp) hl, Bool.eq_iff_iff]
  simp only [beq_iff_eq, decide_eq_true_eq]
  exact ⟨fun e => by rw [← ofL_data s, e, ofL_data], fun e => by rw [e]⟩
theorem fname_stars {s : ByteArray} (h : fnameB s = true) : ¬ s.toList = ([42, 42] : List UInt8) := by
  intro e
  rw [toList_data] at e
  exact (lit_ne ((fname_lit h).1 42 (by rw [e]; simp))).1 rfl
theorem lit_glob : ∀ ps ts : List ByteArray, (∀ p ∈ ps, fnameB p = true) → globM ps ts = decide (ps = ts)
  | [], ts, _ => by
    rw [globM]
    cases ts <;> simp
  | p :: ps, ts, h => by
    rw [globM.eq_def]
    simp only
    rw [if_neg (fname_stars (h p (by simp)))]
    cases ts with
    | nil => simp
    | cons t r =>
      simp only
      rw [fname_name (h p (by simp)), lit_glob ps r (fun q hq => h q (by simp [hq])), Bool.eq_iff_iff]
      simp
theorem path_names {p : ByteArray} (h : pathB p = true) : (∀ x ∈ piecesB p slash, fnameB x = true) ∧ ((piecesB p slash).length : Int) ≤ 4 := by
  unfold pathB at h
  simp only [Bool.and_eq_true, List.all_eq_true, decide_eq_true_eq] at h
  exact h
theorem path_glob {p : ByteArray} (h : pathB p = true) : globB p = true := by
  obtain ⟨h1, h2⟩ := path_names h
  unfold globB
  simp only [Bool.and_eq_true, List.all_eq_true, decide_eq_true_eq]
  exact ⟨fun x hx => fname_piece (h1 x hx), h2⟩
/-- A path takes itself alone. -/
theorem path_self (p : ByteArray) : matchB p p = pathB p := by
  unfold matchB
  cases h : pathB p with
  | false => simp
  | true => rw [path_glob h, lit_glob _ _ (path_names h).1]; simp
theorem path_other {p q : ByteArray} (h : pathB p = true) (hq : p ≠ q) : matchB p q = false := by
  unfold matchB
  rw [path_glob h, lit_glob _ _ (path_names h).1]
  have : ¬ piecesB p slash = piecesB q slash := fun e => hq (by rw [← joinB_pieces p 47, ← joinB_pieces q 47]; exact congrArg (fun l => joinB l ⟨#[47]⟩) e)
  simp [this]
theorem anyD_last {α : Type} (g : List α → Bool) : ∀ l : List α, g [] = true → anyD g l = true
  | [], h => h
  | _ :: l, h => by rw [anyD, anyD_last g l h, Bool.or_true]
theorem anyD_one {α : Type} (g : List α → Bool) : ∀ l : List α, l ≠ [] → (∀ x, g [x] = true) → anyD g l = true
  | [], h, _ => absurd rfl h
  | [x], _, h => by rw [anyD, h x, Bool.true_or]
  | _ :: y :: l, _, h => by rw [anyD, anyD_one g (y :: l) (by simp) h, Bool.or_true]
def stars2 : ByteArray := ⟨#[42, 42]⟩
def stars3 : ByteArray := ⟨#[42, 42, 47, 42]⟩
theorem stars2_pieces : piecesB stars2 slash = [stars2] := by
  unfold piecesB stars2 slash
  decide +kernel
theorem stars3_pieces : piecesB stars3 slash = [stars2, ⟨#[42]⟩] := by
  unfold piecesB stars2 stars3 slash
  decide +kernel
theorem match_stars2 (p : ByteArray) : matchB stars2 p = pathB p := by
  unfold matchB globB
  rw [stars2_pieces]
  have h1 : ([stars2].all pieceB && decide ((([stars2] : List ByteArray).length : Int) ≤ 4)) = true := by
    rw [List.all_cons, piece_stars (by rw [toList_data]; rfl)]
    rfl
  rw [h1, globM.eq_def]
  simp only
  rw [if_pos (by rw [toList_data]; rfl), anyD_last _ _ (by rw [globM]; rfl)]
  simp
theorem name_star (t : ByteArray) : nameB ⟨#[42]⟩ t = true := by
  unfold nameB
  rw [show (⟨#[42]⟩ : ByteArray).data.toList = [42] from rfl, nameMF.eq_def]
  simp only
  rw [if_neg (by simp), show unitN [42] = 1 from by decide, show ([42] : List UInt8).take 1 = [42] from rfl, if_pos rfl]
  refine anyD_last _ _ ?_
  rfl
theorem match_stars3 (p : ByteArray) : matchB stars3 p = pathB p := by
  unfold matchB globB
  rw [stars3_pieces]
  have h1 : ([stars2, ⟨#[42]⟩].all pieceB && decide ((([stars2, ⟨#[42]⟩] : List ByteArray).length : Int) ≤ 4)) = true := by
    rw [List.all_cons, piece_stars (by rw [toList_data]; rfl)]
    decide
  rw [h1, globM.eq_def]
  simp only
  rw [if_pos (by rw [toList_data]; rfl), anyD_one _ _ (pieces_ne _ _) (fun x => by
    rw [globM.eq_def]
    simp only
    rw [if_neg (by rw [toList_data]; decide), name_star]
    rfl)]
  simp
end Go.Proofs.YtbjgmbhkofgjaaaDoor.Pure
