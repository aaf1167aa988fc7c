/- What the functions come to. -/
import Derived.Test.YtbaeljcnbkeipaaDoorZGAAux
import Derived.Test.YtbaeljcnbkeipaaDoorZGAPGAx2
import Derived.Test.YtbaeljcnbkeipaaDoorZGAPGAx7
import Derived.Lib.SplitLaws
import Derived.Lib.ItoaNum
import Derived.Test.YtbaeljcnbkeipaaDoorZGAPGAx5
import Derived.Test.YtbaeljcnbkeipaaDoorZGAMine
import Derived.Sort.Walk0
import Derived.Lib.SlicesCompact
import Derived.Test.YtbaeljcnbkeipaaDoorZGAPGAx0
import Derived.Test.YtbaeljcnbkeipaaDoorZGAPGAx9
import Derived.Test.YtbaeljcnbkeipaaDoorZGAPGAx11
set_option linter.unusedVariables false
set_option linter.unusedSimpArgs false
namespace Go.Proofs.YtbaeljcnbkeipaaDoor.Pure
open Go.RowKit Go.Proofs.YtbaeljcnbkeipaaDoor.PGA Go.Proofs.YtbaeljcnbkeipaaDoorW.PrintWords Go.Proofs.YtbaeljcnbkeipaaDoorW.PrintLast Go.Proofs.YtbaeljcnbkeipaaDoor.Aux
def Got {α : Type} (g : Nat → Option α) (p : α → Prop) : Prop := ∃ r, Ev g r ∧ p r
theorem Got.bind {α β : Type} {g : Nat → Option α} {f : Nat → α → Option β} {p : α → Prop} {q : β → Prop} (h : Got g p) (h' : ∀ r, p r → Got (fun k => f k r) q) : Got (fun k => (g k).bind (f k)) q := by
 obtain ⟨r, hr, hp⟩ := h
 obtain ⟨s, hs, hq⟩ := h' r hp
 exact ⟨s, Ev.bind hr hs, hq⟩
theorem Got.some {α : Type} {r : α} {p : α → Prop} (h : p r) : Got (fun _ => Option.some r) p := ⟨r, Ev.some, h⟩
theorem Got.succ {α : Type} {g : Nat → Option α} {p : α → Prop} (h : Got (fun k => g (k + 1)) p) : Got g p := by
 obtain ⟨r, hr, hp⟩ := h
 exact ⟨r, Ev.succ hr, hp⟩
theorem Got.const {α : Type} {o : Option α} {p : α → Prop} (h : ∃ r, o = Option.some r ∧ p r) : Got (fun _ => o) p := by
 obtain ⟨r, e, hp⟩ := h
 exact ⟨r, Ev.const e, hp⟩
theorem Got.of {α : Type} {g : Nat → Option α} {r : α} {p : α → Prop} (h : Ev g r) (hp : p r) : Got g p := ⟨r, h, hp⟩
theorem Got.mono {α : Type} {g : Nat → Option α} {p q : α → Prop} (h : Got g p) (hpq : ∀ r, p r → q r) : Got g q := by
 obtain ⟨r, hr, hp⟩ := h
 exact ⟨r, hr, hpq r hp⟩
theorem Got.cond {α : Type} {c : Prop} [Decidable c] {g f : Nat → Option α} {p : α → Prop} (h : c → Got g p) (h' : ¬c → Got f p) : Got (fun k => if c then g k else f k) p := by
 by_cases hc : c
 ·simpa only [hc, if_true] using h hc
 ·simpa only [hc, if_false] using h' hc
theorem Got.ev {α : Type} {g : Nat → Option α} {s : α} (h : Got g (fun r => r = s)) : Ev g s := by
 obtain ⟨r, hr, rfl⟩ := h
 exact hr
def Cur (b : List Int) (i : Int) : Prop := 0 ≤ i ∧ i ≤ (b.length : Int) ∧ b.length ≤ 140737488355328
theorem and255 (x : Int) : 0 ≤ Go.bits .and .i64 x 255 ∧ Go.bits .and .i64 x 255 ≤ 255 := by
 have h : (BitVec.ofInt 64 x &&& BitVec.ofInt 64 255).toNat ≤ 255 := by
  rw [BitVec.toNat_and]
  exact Nat.and_le_right
 have e : Go.bits .and .i64 x 255 = IntKind.wrap .i64 ((BitVec.ofInt 64 x &&& BitVec.ofInt 64 255).toNat : Int) := rfl
 rw [e, IntKind.wrap_i64]
 omega
theorem draw_byte (b : List Int) (i h : Int) (hc : Cur b i) : ∃ r, spec_l1Byte.f b i h = some r ∧ (0 ≤ r.1 ∧ r.1 ≤ 255) ∧ Cur b r.2.1 := by
 obtain ⟨c0, c1, c2⟩ := hc
 unfold spec_l1Byte.f
 by_cases h1 : i < (b.length : Int)
 ·simp only [h1, c0, if_true]
  refine ⟨_, rfl, and255 _, ?_⟩
  show Cur b (wrap64 (i + 1))
  rw [wrap64_id (by omega) (by omega)]
  exact ⟨by omega, by omega, c2⟩
 ·simp only [h1, if_false]
  exact ⟨_, rfl, and255 _, c0, c1, c2⟩
theorem draw_below (b : List Int) (i h n : Int) (hn : 0 < n) (hn' : n ≤ 9223372036854775807) (hc : Cur b i) : Got (fun k => spec_l1Below.f k b i h n) fun r => (0 ≤ r.1 ∧ r.1 < n) ∧ Cur b r.2.1 := by
 have tm : ∀ x : Int, 0 ≤ x → 0 ≤ Int.tmod x n ∧ Int.tmod x n < n := by
  intro x hx
  rw [Int.tmod_eq_emod_of_nonneg hx]
  exact ⟨Int.emod_nonneg _ (by omega), Int.emod_lt_of_pos _ hn⟩
 unfold spec_l1Below.f
 simp only [show ¬ n ≤ 0 by omega, if_false]
 refine Got.succ ?_
 simp only [spec_l1Below.j0, show ¬ n = 0 by omega, if_false]
 refine Got.cond (fun _ => ?_) (fun _ => ?_)
 ·refine Got.bind (Got.const (draw_byte b i h hc)) fun r hr => Got.some ?_
  exact ⟨tm _ hr.1.1, hr.2⟩
 ·refine Got.bind (Got.const (draw_byte b i h hc)) fun r hr => ?_
  refine Got.bind (Got.const (draw_byte b _ _ hr.2)) fun r2 hr2 => ?_
  refine Got.bind (Got.const (draw_byte b _ _ hr2.2)) fun r3 hr3 => Got.some ?_
  obtain ⟨a1, a2⟩ := hr.1
  obtain ⟨b1, b2⟩ := hr2.1
  obtain ⟨c1, c2⟩ := hr3.1
  refine ⟨tm _ ?_, hr3.2⟩
  rw [wrap64_id (i := r.1 * 65536) (by omega) (by omega), wrap64_id (i := r2.1 * 256) (by omega) (by omega), wrap64_id (i := r.1 * 65536 + r2.1 * 256) (by omega) (by omega), wrap64_id (by omega) (by omega)]
  omega
theorem draw_once (b : List Int) (i h n : Int) (hn : 0 < n) (hn' : n ≤ 9223372036854775807) (hc : Cur b i) : Got (fun k => spec_l1Once.f k b i h n) fun r => Cur b r.2.1 := by
 unfold spec_l1Once.f
 exact Got.bind (draw_below b i h n hn hn' hc) fun r hr => Got.some hr.2
theorem draw_str (b : List Int) (i h : Int) (l : List ByteArray) (hl : 0 < l.length) (hl' : l.length ≤ 1000000) (hc : Cur b i) : Got (fun k => spec_l1Str.f k b i h l) fun r => r.1 ∈ l ∧ Cur b r.2.1 := by
 unfold spec_l1Str.f
 refine Got.bind (draw_below b i h _ (by omega) (by omega) hc) fun r hr => ?_
 obtain ⟨⟨h0, h1⟩, h2⟩ := hr
 simp only [h0, h1, if_true]
 refine Got.some ⟨?_, h2⟩
 obtain ⟨j, hj⟩ := Int.eq_ofNat_of_zero_le h0
 rw [hj]
 have hlt : j < l.length := by omega
 show rdOf ByteArray.empty l (j : Int) ∈ l
 rw [rdOf_cast _ hlt]
 exact List.getElem_mem hlt
theorem draw_new_l (l : List Int) (hl : l.length ≤ 1000000000) (d : Nat) : ∀ (j : Nat) (x : Int), j + d = l.length → Got (fun k => spec_l1New.l0 k l x (j : Int)) fun r => r.1 = l ∧ r.2.1 = 0 := by
 induction d with
 | zero =>
  intro j x hj
  refine Got.succ ?_
  simp only [spec_l1New.l0, show ¬ (j : Int) < (l.length : Int) by omega, if_false]
  exact Got.some ⟨rfl, rfl⟩
 | succ d ih =>
  intro j x hj
  refine Got.succ ?_
  simp only [spec_l1New.l0, show (j : Int) < (l.length : Int) by omega, if_true, show (0 : Int) ≤ (j : Int) by omega, next_i (show j < l.length by omega) (by omega)]
  exact Got.cond (fun _ => ih (j + 1) _ (by omega)) (fun _ => Got.some ⟨rfl, rfl⟩)
theorem draw_new (l : List Int) (hl : l.length ≤ 1000000000) : Got (fun k => spec_l1New.f k l) fun r => r.1 = l ∧ r.2.1 = 0 := draw_new_l l hl l.length 0 _ (by omega)
theorem cur_new {l : List Int} (hl : l.length ≤ 1000000000) {r : List Int × Int × Int} (h : r.1 = l ∧ r.2.1 = 0) : Cur r.1 r.2.1 := by
 obtain ⟨h1, h2⟩ := h
 rw [h1, h2]
 exact ⟨by omega, by omega, by omega⟩
end Go.Proofs.YtbaeljcnbkeipaaDoor.Pure
namespace Go.Proofs.YtbaeljcnbkeipaaDoor.Pure
open Go.RowKit Go.Proofs.YtbaeljcnbkeipaaDoor.Aux Go.Proofs.YtbaeljcnbkeipaaDoorW.PrintWords
theorem Ev.no {α : Type} {c : Prop} [Decidable c] {g f : Nat → Option α} {r : α} (hc : ¬ c) (h : Ev f r) : Ev (fun k => if c then g k else f k) r := by
 simpa only [hc, if_false] using h
def glue (u : List UInt8) : List (List UInt8) → List (List UInt8)
 | [] => [u]
 | p :: ps => (u ++ p) :: ps
theorem glue_nil : ∀ {l : List (List UInt8)}, l ≠ [] → glue [] l = l
 | [], h => absurd rfl h
 | _ :: _, _ => rfl
theorem glue_glue (u v : List UInt8) : ∀ l : List (List UInt8), l ≠ [] → glue u (glue v l) = glue (u ++ v) l
 | [], h => absurd rfl h
 | p :: ps, _ => by simp [glue]
theorem split_miss {s sep : List UInt8} (h : Lib.index s sep = -1) : Lib.split s sep = [s] := by
 unfold Lib.split
 rw [Lib.count_miss h]
 rfl
theorem split_hit {s sep : List UInt8} {i : Nat} (h1 : sep ≠ []) (h : Lib.index s sep = i) : Lib.split s sep = s.take i :: Lib.split (s.drop (i + sep.length)) sep := by
 unfold Lib.split
 rw [Lib.count_hit h1 h, Nat.add_comm]
 have hm : ¬ (Lib.index s sep == -1) = true := fun e => by have := beq_iff_eq.1 e; omega
 have e : (Lib.index s sep).toNat = i := by omega
 rw [Lib.splitK, if_neg hm, e]
 rfl
theorem split_ne (s sep : List UInt8) : Lib.split s sep ≠ [] := by
 unfold Lib.split
 cases Lib.count s sep with
 | zero => simp [Lib.splitK]
 | succ k =>
  unfold Lib.splitK
  split <;> simp
theorem split_nil {sep : List UInt8} (h1 : sep ≠ []) : Lib.split [] sep = [[]] := by
 refine split_miss ?_
 cases sep with
 | nil => exact absurd rfl h1
 | cons a b => rfl
theorem split_at {s sep : List UInt8} (h1 : sep ≠ []) (h : sep.isPrefixOf s = true) : Lib.split s sep = [] :: Lib.split (s.drop sep.length) sep := by
 have hi : Lib.index s sep = ((0 : Nat) : Int) := by
  cases s with
  | nil =>
   cases sep with
   | nil => exact absurd rfl h1
   | cons a b => simp at h
  | cons b l => unfold Lib.index; rw [if_pos h]; rfl
 rw [split_hit h1 hi]
 simp
theorem split_by {b : UInt8} {l sep : List UInt8} (h1 : sep ≠ []) (h : sep.isPrefixOf (b :: l) = false) : Lib.split (b :: l) sep = glue [b] (Lib.split l sep) := by
 have hx : Lib.index (b :: l) sep = if Lib.index l sep == -1 then -1 else Lib.index l sep + 1 := by rw [Lib.index, h]; simp
 by_cases hm : Lib.index l sep = -1
 ·rw [split_miss hm, split_miss (by rw [hx, if_pos (beq_iff_eq.2 hm)])]
  rfl
 ·have hge := Lib.index_ge l sep
  obtain ⟨j, hj⟩ : ∃ j : Nat, Lib.index l sep = j := ⟨(Lib.index l sep).toNat, by omega⟩
  have hx' : Lib.index (b :: l) sep = ((j + 1 : Nat) : Int) := by rw [hx, if_neg (fun e => hm (beq_iff_eq.1 e)), hj]; omega
  rw [split_hit h1 hj, split_hit h1 hx']
  simp [glue, Nat.add_right_comm]
theorem split_one_at (c : UInt8) (l : List UInt8) : Lib.split (c :: l) [c] = [] :: Lib.split l [c] := by
 rw [split_at (sep := [c]) (by simp) (by unfold List.isPrefixOf; simp)]
 rfl
theorem split_one_by {b c : UInt8} (l : List UInt8) (h : ¬ b = c) : Lib.split (b :: l) [c] = glue [b] (Lib.split l [c]) :=
 split_by (by simp) (by
  unfold List.isPrefixOf
  rw [show (c == b) = false from by simpa using fun e => h e.symm]
  rfl)
def ofL (l : List UInt8) : ByteArray := ⟨l.toArray⟩
theorem ofL_data (s : ByteArray) : ofL s.data.toList = s := by cases s; simp [ofL]
theorem data_ofL (l : List UInt8) : (ofL l).data.toList = l := by simp [ofL]
theorem ofL_size (l : List UInt8) : (ofL l).size = l.length := by simp [ofL, ByteArray.size]
def piecesB (s sep : ByteArray) : List ByteArray := (Lib.split s.data.toList sep.data.toList).map ofL
theorem splitB_pieces (s sep : ByteArray) : Lib.splitB sep 0 (Lib.countB s sep) s = piecesB s sep := by
 have h := Lib.splitB_data sep 0 (Lib.countB s sep) s
 unfold piecesB Lib.split
 rw [← h, List.map_map]
 conv => lhs; rw [← List.map_id (Lib.splitB sep 0 (Lib.countB s sep) s)]
 exact List.map_congr_left (fun x _ => by simp [ofL_data])
theorem extract_ofL (s : ByteArray) (a b : Nat) : s.extract a b = ofL ((s.data.toList.drop a).take (b - a)) := by
 rw [← ofL_data (s.extract a b), Lib.extract_data]
theorem data_drop {s : ByteArray} {i : Nat} (h : i < s.size) : ∃ b : UInt8, s.data.toList.drop i = b :: s.data.toList.drop (i + 1) ∧ bt s (i : Int) = (b.toNat : Int) ∧ s.data.toList[i]? = some b := by
 have hl : i < s.data.toList.length := by simpa using h
 refine ⟨s.data.toList[i], List.drop_eq_getElem_cons hl, ?_, List.getElem?_eq_getElem hl⟩
 rw [bt_bs]
 unfold bs
 rw [List.getD_eq_getElem?_getD, Int.toNat_natCast, List.getElem?_map, List.getElem?_eq_getElem hl]
 rfl
theorem pieces_mem {s sep : ByteArray} (h1 : sep.data.toList ≠ []) : ∀ x ∈ piecesB s sep, x.size ≤ s.size := by
 have main : ∀ (n : Nat) (l : List UInt8), l.length = n → ∀ x ∈ Lib.split l sep.data.toList, x.length ≤ n := by
  intro n
  induction n using Nat.strongRecOn with
  | _ n ih =>
   intro l hl x hx
   rcases Lib.index_spec l sep.data.toList with ⟨hm, _⟩ | ⟨i, hi, hle, _, _⟩
   ·rw [split_miss hm] at hx
    obtain rfl := List.mem_singleton.1 hx
    omega
   ·rw [split_hit h1 hi] at hx
    have hp : 0 < sep.data.toList.length := List.length_pos_iff.2 h1
    have hr := Lib.index_room l sep.data.toList (by omega)
    rcases List.mem_cons.1 hx with rfl | hx
    ·rw [List.length_take]; omega
    ·have := ih (l.length - (i + sep.data.toList.length)) (by omega) _ (by rw [List.length_drop]) x hx
     omega
 intro x hx
 obtain ⟨u, hu, rfl⟩ := List.mem_map.1 hx
 rw [ofL_size]
 have := main _ _ rfl u hu
 rwa [show s.data.toList.length = s.size from by simp] at this
theorem pieces_length {s sep : ByteArray} (h1 : 1 ≤ sep.size) : (piecesB s sep).length ≤ s.size + 1 := by
 rw [← splitB_pieces]
 have := Lib.splitB_length_le sep 0 (Lib.countB s sep) s
 have := Lib.countB_le sep h1 s.size s (Nat.le_refl _)
 omega
end Go.Proofs.YtbaeljcnbkeipaaDoor.Pure
namespace Go.Proofs.YtbaeljcnbkeipaaDoor.Pure
open Go.RowKit Go.Proofs.YtbaeljcnbkeipaaDoor.PGA Go.Proofs.YtbaeljcnbkeipaaDoorW.PrintWords Go.Proofs.YtbaeljcnbkeipaaDoorW.PrintLast Go.Proofs.YtbaeljcnbkeipaaDoor.Aux
def numB (x : Int) : ByteArray := ofL (Lib.decDigits x.toNat)
theorem dig_one (x : Nat) : strOfNums [wrap64 (48 + Int.tmod (x : Int) 10) % 256] = ofL [UInt8.ofNat (48 + x % 10)] := by
 have h : wrap64 (48 + Int.tmod (x : Int) 10) % 256 = ((48 + x % 10 : Nat) : Int) := by
  rw [Int.tmod_eq_emod_of_nonneg (by omega), wrap64_id (by omega) (by omega)]
  omega
 rw [h]
 rfl
theorem ofL_append (a b : List UInt8) : ofL a ++ ofL b = ofL (a ++ b) := by
 rw [← ofL_data (ofL a ++ ofL b)]
 simp [ofL]
theorem spec_num_l (m : Nat) : ∀ (x : Nat) (rest : List UInt8), x < 10 ^ m → x ≤ 9223372036854775807 → m + rest.length ≤ 100 →
  Ev (fun k => spec_NumText.l0 k (x : Int) (ofL (UInt8.ofNat (48 + x % 10) :: rest))) (ofL (Lib.decDigits x ++ rest)) := by
 induction m with
 | zero =>
  intro x rest hx _ hr
  obtain rfl : x = 0 := by simp at hx; exact hx
  refine Ev.succ ?_
  simp only [spec_NumText.l0, show ¬ ((0 : Nat) : Int) > 9 by omega, if_false]
  refine Ev.cast Ev.some ?_
  rw [Lib.decDigits, dif_pos (by omega)]
  rfl
 | succ m ih =>
  intro x rest hx hx2 hr
  by_cases h9 : x < 10
  ·refine Ev.succ ?_
   simp only [spec_NumText.l0, show ¬ (x : Int) > 9 by omega, if_false]
   refine Ev.cast Ev.some ?_
   rw [Lib.decDigits, dif_pos h9, Nat.mod_eq_of_lt h9]
   rfl
  ·have hd : wrap64 (Int.tdiv (x : Int) 10) = ((x / 10 : Nat) : Int) := by
    rw [Int.tdiv_eq_ediv_of_nonneg (by omega), wrap64_id (by omega) (by omega)]
    omega
   have hw : ∀ (y : Nat), (strOfNums [wrap64 (48 + Int.tmod (y : Int) 10) % 256]) = ofL [UInt8.ofNat (48 + y % 10)] := dig_one
   have := ih (x / 10) (UInt8.ofNat (48 + x % 10) :: rest) (by rw [Nat.pow_succ] at hx; omega) (by omega) (by simp only [List.length_cons]; omega)
   refine Ev.succ ?_
   simp only [spec_NumText.l0, show (x : Int) > 9 by omega, if_true, Option.bind_some, hd, hw, ofL_append, ofL_size, List.length_cons, List.length_nil, show 0 + 1 + (rest.length + 1) ≤ 9223372036854775807 by omega]
   refine Ev.cast this ?_
   rw [show Lib.decDigits x = Lib.decDigits (x / 10) ++ [UInt8.ofNat (48 + x % 10)] from by rw [Lib.decDigits, dif_neg h9]]
   simp
theorem spec_num (x : Int) (h : x ≤ 9223372036854775807) : Ev (fun k => spec_NumText.f k x) (numB x) := by
 unfold spec_NumText.f numB
 by_cases h0 : x < 0
 ·simp only [h0, if_true]
  refine Ev.succ ?_
  simp only [spec_NumText.j0]
  have := spec_num_l 1 0 [] (by omega) (by omega) (by simp)
  rw [show x.toNat = 0 by omega]
  have hd := dig_one 0
  rw [show ((0 : Nat) : Int) = 0 from rfl] at hd this
  rw [hd]
  simpa using this
 ·simp only [h0, if_false]
  obtain ⟨n, rfl⟩ : ∃ n : Nat, x = n := ⟨x.toNat, by omega⟩
  refine Ev.succ ?_
  simp only [spec_NumText.j0]
  have := spec_num_l 19 n [] (by omega) (by omega) (by simp)
  rw [dig_one n]
  simpa using this
def inB (x a b : Int) : Bool := decide (a ≤ x) && decide (x ≤ b)
def smallB (x : Int) : Bool := inB x 97 122
def digitB (x : Int) : Bool := inB x 48 57
theorem in_f (a b c : Int) : spec_l1In.f a b c = some (inB a b c) := by
 unfold spec_l1In.f inB
 by_cases h : b ≤ a <;> simp [h]
theorem inRange_f (a b c : Int) : impl_inRange.f a b c = some (inB a b c) := by
 unfold impl_inRange.f inB
 by_cases h : b ≤ a <;> simp [h]
theorem small_spec {x : Int} (h : 0 ≤ x ∧ x ≤ 255) : spec_l1Small.f x = some (smallB x) := by
 unfold spec_l1Small.f
 rw [wrap64_id (by omega) (by omega), in_f]
 rfl
theorem digit_spec {x : Int} (h : 0 ≤ x ∧ x ≤ 255) : spec_l1Digit.f x = some (digitB x) := by
 unfold spec_l1Digit.f
 rw [wrap64_id (by omega) (by omega), in_f]
 rfl
theorem small_impl (x : Int) : impl_isSmall.f x = some (smallB x) := by
 unfold impl_isSmall.f smallB inB
 by_cases h : 97 ≤ x <;> simp [h]
theorem digit_impl (x : Int) : impl_isFigure.f x = some (digitB x) := by
 unfold impl_isFigure.f digitB inB
 by_cases h : 48 ≤ x <;> simp [h]
theorem spec_split_l (s : ByteArray) (c : UInt8) (hs : s.size ≤ 16777216) (d : Nat) : ∀ (i fr : Nat) (out : List ByteArray), i + d = s.size → fr ≤ i → out.length ≤ i →
  Ev (fun k => spec_Split.l0 k s (c.toNat : Int) out (fr : Int) (i : Int)) (out ++ (glue ((s.data.toList.drop fr).take (i - fr)) (Lib.split (s.data.toList.drop i) [c])).map ofL) := by
 induction d with
 | zero =>
  intro i fr out hi hf ho
  obtain rfl : i = s.size := by omega
  have h3 := wrap64_id (i := (s.size : Int) + 1) (by omega) (by omega)
  have hd : s.data.toList.drop s.size = [] := List.drop_eq_nil_of_le (by simp)
  refine Ev.succ ?_
  simp only [spec_Split.l0, Int.le_refl, if_true, show (0 : Int) ≤ (fr : Int) by omega, show (fr : Int) ≤ (s.size : Int) by omega, show out.length < 8796093022208 by omega, h3]
  refine Ev.succ ?_
  simp only [spec_Split.l0, show ¬ ((s.size : Int) + 1 ≤ (s.size : Int)) by omega, if_false]
  refine Ev.cast Ev.some ?_
  rw [hd, split_nil (by simp)]
  simp only [glue, List.append_nil, List.map_cons, List.map_nil, Int.toNat_natCast, extract_ofL]
 | succ d ih =>
  intro i fr out hi hf ho
  have hlt : i < s.size := by omega
  have h3 := next_i hlt (by omega)
  obtain ⟨b, hb, hbt, hg⟩ := data_drop hlt
  refine Ev.succ ?_
  simp only [spec_Split.l0, show (i : Int) ≤ (s.size : Int) by omega, show ¬ (i : Int) = (s.size : Int) by omega, show (0 : Int) ≤ (i : Int) by omega, show (i : Int) < (s.size : Int) by omega, if_true, if_false, h3, hbt]
  by_cases h : b = c
  ·subst h
   simp only [show (0 : Int) ≤ (fr : Int) by omega, show (fr : Int) ≤ (i : Int) by omega, show out.length < 8796093022208 by omega, if_true]
   refine Ev.cast (ih (i + 1) (i + 1) _ (by omega) (by omega) (by simp; omega)) ?_
   rw [hb, split_one_at, Nat.sub_self, List.take_zero, glue_nil (split_ne _ _)]
   simp only [glue, List.append_nil, List.map_cons, List.append_assoc, List.singleton_append, Int.toNat_natCast, extract_ofL]
  ·have hne : ¬ ((b.toNat : Int) = (c.toNat : Int)) := fun e => h (UInt8.toNat_inj.1 (by omega))
   simp only [hne, if_false]
   refine Ev.cast (ih (i + 1) fr out (by omega) (by omega) (by omega)) ?_
   rw [hb, split_one_by _ h, glue_glue _ _ _ (split_ne _ _)]
   congr 3
   have hx : (s.data.toList.drop fr)[i - fr]? = some b := by rw [List.getElem?_drop, show fr + (i - fr) = i by omega, hg]
   rw [show i + 1 - fr = (i - fr) + 1 by omega, List.take_add_one, hx]
   rfl
theorem spec_split (s : ByteArray) (c : UInt8) (hs : s.size ≤ 16777216) : Ev (fun k => spec_Split.f k s (c.toNat : Int)) (piecesB s ⟨#[c]⟩) := by
 unfold spec_Split.f
 refine Ev.cast (spec_split_l s c hs s.size 0 0 [] (by omega) (by omega) (by simp)) ?_
 rw [List.nil_append, List.drop_zero, Nat.sub_self, List.take_zero, glue_nil (split_ne _ _)]
 rfl
theorem strings_split (s : ByteArray) (c : UInt8) (hs : s.size ≤ 16777216) : strings_Split.f s ⟨#[c]⟩ = some (piecesB s ⟨#[c]⟩) := by
 unfold strings_Split.f
 rw [if_pos ⟨by omega, by show 1 ≤ 1; omega⟩, splitB_pieces]
def pathC (x : Int) : Bool := smallB x || (digitB x || (decide (x = 46) || (decide (x = 45) || decide (x = 95))))
theorem letter_spec {x : Int} (h : 0 ≤ x ∧ x ≤ 255) : spec_l5Letter.f x = some (pathC x) := by
 unfold spec_l5Letter.f pathC
 simp only [small_spec h, digit_spec h, Option.bind_some]
 cases smallB x <;> cases digitB x <;> simp
 by_cases h1 : x = 46 <;> by_cases h2 : x = 45 <;> simp [h1, h2]
 rfl
theorem letter_impl (x : Int) : impl_isPathByte.f x = some (pathC x) := by
 unfold impl_isPathByte.f pathC
 simp only [small_impl, digit_impl, Option.bind_some]
 cases smallB x <;> cases digitB x <;> simp
 by_cases h1 : x = 46 <;> by_cases h2 : x = 45 <;> simp [h1, h2]
 rfl
def slash : ByteArray := ⟨#[47]⟩
theorem slash_pieces {s : ByteArray} (hs : s.size ≤ 16777216) : (piecesB s slash).length ≤ 9223372036854775807 ∧ ∀ x ∈ piecesB s slash, x.size ≤ 9223372036854775807 := by
 have h := pieces_length (s := s) (sep := slash) (Nat.le_refl _)
 exact ⟨by omega, fun x hx => by have := pieces_mem (sep := slash) (by simp [slash]) x hx; omega⟩
def nameEnd (s : ByteArray) : Bool := inB s.size 1 12 && (!decide (s.toList = ([46] : List UInt8)) && (s.toList != ([46, 46] : List UInt8)))
def fnameB (s : ByteArray) : Bool := (bs s).all pathC && nameEnd s
theorem spec_fname_l (s : ByteArray) (hs : s.size ≤ 9223372036854775807) (d : Nat) : ∀ i : Nat, i + d = s.size → Ev (fun k => spec_l5Name.l0 k s (i : Int)) (((bs s).drop i).all pathC && nameEnd s) := by
 induction d with
 | zero =>
  intro i hi
  have h1 : ¬ (i : Int) < (s.size : Int) := by omega
  refine Ev.succ ?_
  simp only [spec_l5Name.l0, h1, if_false, bs_end (show s.size ≤ i by omega), List.all_nil, Bool.true_and, in_f, Option.bind_some, nameEnd]
  cases hb : inB (s.size : Int) 1 12 with
  | false => simpa using Ev.some
  | true =>
   simp only [if_true]
   by_cases h : s.toList = ([46] : List UInt8)
   ·simpa [h] using Ev.some
   ·simpa [h] using Ev.some
 | succ d ih =>
  intro i hi
  have h1 : (i : Int) < (s.size : Int) := by omega
  have h2 : (0 : Int) ≤ (i : Int) := by omega
  have h3 := next_i (show i < s.size by omega) hs
  have ih' := ih (i + 1) (by omega)
  refine Ev.succ ?_
  rw [bs_drop (by omega), List.all_cons]
  simp only [spec_l5Name.l0, h1, h2, h3, if_true, letter_spec (bt_range s i), Option.bind_some]
  cases hp : pathC (bt s (i : Int)) with
  | true => simpa using ih'
  | false => simpa using Ev.some
theorem spec_fname (s : ByteArray) (hs : s.size ≤ 9223372036854775807) : Ev (fun k => spec_l5Name.f k s) (fnameB s) := spec_fname_l s hs s.size 0 (by omega)
theorem impl_fname_l (s : ByteArray) (hs : s.size ≤ 9223372036854775807) (d : Nat) : ∀ i : Nat, i + d = s.size → Ev (fun k => impl_fileNameOk.l0 k s (i : Int)) (((bs s).drop i).all pathC && nameEnd s) := by
 induction d with
 | zero =>
  intro i hi
  have h1 : ¬ (i : Int) < (s.size : Int) := by omega
  refine Ev.succ ?_
  simp only [impl_fileNameOk.l0, h1, if_false, bs_end (show s.size ≤ i by omega), List.all_nil, Bool.true_and, inRange_f, Option.bind_some, nameEnd]
  cases hb : inB (s.size : Int) 1 12 with
  | false => simpa using Ev.some
  | true =>
   simp only [if_true]
   by_cases h : s.toList = ([46] : List UInt8)
   ·simpa [h] using Ev.some
   ·simpa [h] using Ev.some
 | succ d ih =>
  intro i hi
  have h1 : (i : Int) < (s.size : Int) := by omega
  have h2 : (0 : Int) ≤ (i : Int) := by omega
  have h3 := next_i (show i < s.size by omega) hs
  have ih' := ih (i + 1) (by omega)
  refine Ev.succ ?_
  rw [bs_drop (by omega), List.all_cons]
  simp only [impl_fileNameOk.l0, h1, h2, h3, if_true, letter_impl, Option.bind_some]
  cases hp : pathC (bt s (i : Int)) with
  | true => simpa using ih'
  | false => simpa using Ev.some
theorem impl_fname (s : ByteArray) (hs : s.size ≤ 9223372036854775807) : Ev (fun k => impl_fileNameOk.f k s) (fnameB s) := impl_fname_l s hs s.size 0 (by omega)
def pathB (s : ByteArray) : Bool := (piecesB s slash).all fnameB && decide (((piecesB s slash).length : Int) ≤ 4)
theorem spec_path_l (l : List ByteArray) (hl : l.length ≤ 9223372036854775807) (hs : ∀ x ∈ l, x.size ≤ 9223372036854775807) (d : Nat) : ∀ i : Nat, i + d = l.length → Ev (fun k => spec_PathOk.l0 k l (i : Int)) ((l.drop i).all fnameB && decide ((l.length : Int) ≤ 4)) := by
 induction d with
 | zero =>
  intro i hi
  have h1 : ¬ (i : Int) < (l.length : Int) := by omega
  refine Ev.succ ?_
  rw [List.drop_eq_nil_of_le (by omega)]
  simp only [spec_PathOk.l0, h1, if_false, List.all_nil, Bool.true_and]
  exact Ev.some
 | succ d ih =>
  intro i hi
  have hlt : i < l.length := by omega
  have h1 : (i : Int) < (l.length : Int) := by omega
  have h2 : (0 : Int) ≤ (i : Int) := by omega
  have h3 := next_i hlt hl
  have ih' := ih (i + 1) (by omega)
  refine Ev.succ ?_
  rw [drop_get hlt, List.all_cons]
  simp only [spec_PathOk.l0, h1, h2, h3, if_true, rdOf_cast _ hlt]
  refine Ev.bind (spec_fname l[i] (hs _ (List.getElem_mem hlt))) ?_
  cases hp : fnameB l[i] with
  | true => simpa using ih'
  | false => simpa using Ev.some
theorem impl_path_l (l : List ByteArray) (hl : l.length ≤ 9223372036854775807) (hs : ∀ x ∈ l, x.size ≤ 9223372036854775807) (d : Nat) : ∀ i : Nat, i + d = l.length → Ev (fun k => impl_PathOk.l0 k l l (l.length : Int) (i : Int)) ((l.drop i).all fnameB && decide ((l.length : Int) ≤ 4)) := by
 induction d with
 | zero =>
  intro i hi
  have h1 : ¬ (i : Int) < (l.length : Int) := by omega
  refine Ev.succ ?_
  rw [List.drop_eq_nil_of_le (by omega)]
  simp only [impl_PathOk.l0, h1, if_false, List.all_nil, Bool.true_and]
  exact Ev.some
 | succ d ih =>
  intro i hi
  have hlt : i < l.length := by omega
  have h1 : (i : Int) < (l.length : Int) := by omega
  have h2 : (0 : Int) ≤ (i : Int) := by omega
  have h3 := next_i hlt hl
  have ih' := ih (i + 1) (by omega)
  refine Ev.succ ?_
  rw [drop_get hlt, List.all_cons]
  simp only [impl_PathOk.l0, h1, h2, h3, if_true, rdOf_cast _ hlt]
  refine Ev.bind (impl_fname l[i] (hs _ (List.getElem_mem hlt))) ?_
  cases hp : fnameB l[i] with
  | true => simpa using ih'
  | false => simpa using Ev.some
theorem spec_path (s : ByteArray) (hs : s.size ≤ 16777216) : Ev (fun k => spec_PathOk.f k s) (pathB s) := by
 unfold spec_PathOk.f
 have h := slash_pieces hs
 refine Ev.bind (spec_split s 47 hs) ?_
 exact spec_path_l _ h.1 h.2 _ 0 (Nat.zero_add _)
theorem impl_path (s : ByteArray) (hs : s.size ≤ 16777216) : Ev (fun k => impl_PathOk.f k s) (pathB s) := by
 unfold impl_PathOk.f
 have h := slash_pieces hs
 rw [strings_split s 47 hs]
 simp only [Option.bind_some]
 exact impl_path_l _ h.1 h.2 _ 0 (Nat.zero_add _)
def fileB (x : S31) : Bool := pathB x.f0 && !decide ((x.f1.size : Int) > 60)
def filesFrom : Option ByteArray → List S31 → Bool
 | _, [] => true
 | p, x :: r => fileB x && ((match p with | none => true | some q => Op.bytesLess q.toList x.f0.toList) && filesFrom (some x.f0) r)
def filesB (l : List S31) : Bool := filesFrom none l && decide ((l.length : Int) ≤ 30)
def prevOf (l : List S31) (i : Nat) : Option ByteArray := if i = 0 then none else some (l.getD (i - 1) ⟨⟨#[]⟩, ⟨#[]⟩⟩).f0
theorem prev_next {l : List S31} {i : Nat} (h : i < l.length) : prevOf l (i + 1) = some l[i].f0 := by
 unfold prevOf
 rw [if_neg (by omega), Nat.add_sub_cancel, List.getD_eq_getElem?_getD, List.getElem?_eq_getElem h]
 rfl
theorem spec_files_l (l : List S31) (hl : l.length ≤ 9223372036854775807) (hs : ∀ x ∈ l, x.f0.size ≤ 16777216) (d : Nat) : ∀ i : Nat, i + d = l.length → Ev (fun k => spec_FilesOk.l0 k l (i : Int)) (filesFrom (prevOf l i) (l.drop i) && decide ((l.length : Int) ≤ 30)) := by
 induction d with
 | zero =>
  intro i hi
  have h1 : ¬ (i : Int) < (l.length : Int) := by omega
  refine Ev.succ ?_
  rw [List.drop_eq_nil_of_le (by omega)]
  simp only [spec_FilesOk.l0, h1, if_false, filesFrom, Bool.true_and]
  exact Ev.some
 | succ d ih =>
  intro i hi
  have hlt : i < l.length := by omega
  have h1 : (i : Int) < (l.length : Int) := by omega
  have h2 : (0 : Int) ≤ (i : Int) := by omega
  have h3 := next_i hlt hl
  have ih' := ih (i + 1) (by omega)
  rw [prev_next hlt] at ih'
  have hg : rd_T31 l (i : Int) = l[i] := rdD_cast _ hlt
  refine Ev.succ ?_
  rw [drop_get hlt]
  simp only [spec_FilesOk.l0, h1, h2, h3, if_true, hg, filesFrom, fileB]
  refine Ev.bind (spec_path l[i].f0 (hs _ (List.getElem_mem hlt))) ?_
  cases hp : pathB l[i].f0 with
  | false => simpa using Ev.some
  | true =>
   simp only [if_true, Bool.true_and]
   by_cases hz : (l[i].f1.size : Int) > 60
   ·simpa [hz] using Ev.some
   ·simp only [hz, if_false, decide_false, Bool.not_false, Bool.true_and]
    by_cases h0 : i = 0
    ·subst h0
     simpa [prevOf] using ih'
    ·have hp0 : (i : Int) > 0 := by omega
     have hw : wrap64 ((i : Int) - 1) = ((i - 1 : Nat) : Int) := by rw [wrap64_id (by omega) (by omega)]; omega
     have hgp : rd_T31 l ((i - 1 : Nat) : Int) = l[i - 1] := rdD_cast _ (by omega)
     have hpv : prevOf l i = some l[i - 1].f0 := by
      have := prev_next (l := l) (i := i - 1) (by omega)
      rwa [Nat.sub_add_cancel (by omega)] at this
     simp only [hp0, if_true, hw, show (0 : Int) ≤ ((i - 1 : Nat) : Int) by omega, show ((i - 1 : Nat) : Int) < (l.length : Int) by omega, hgp, hpv]
     cases hb : Op.bytesLess l[i - 1].f0.toList l[i].f0.toList with
     | true => simpa using ih'
     | false => simpa using Ev.some
theorem spec_files (l : List S31) (hl : l.length ≤ 9223372036854775807) (hs : ∀ x ∈ l, x.f0.size ≤ 16777216) : Ev (fun k => spec_FilesOk.f k l) (filesB l) := spec_files_l l hl hs l.length 0 (by omega)
theorem impl_files_l (l : List S31) (hl : l.length ≤ 9223372036854775807) (hs : ∀ x ∈ l, x.f0.size ≤ 16777216) (d : Nat) : ∀ i : Nat, i + d = l.length → Ev (fun k => impl_FilesOk.l0 k l l (l.length : Int) (i : Int)) (filesFrom (prevOf l i) (l.drop i) && decide ((l.length : Int) ≤ 30)) := by
 induction d with
 | zero =>
  intro i hi
  have h1 : ¬ (i : Int) < (l.length : Int) := by omega
  refine Ev.succ ?_
  rw [List.drop_eq_nil_of_le (by omega)]
  simp only [impl_FilesOk.l0, h1, if_false, filesFrom, Bool.true_and]
  exact Ev.some
 | succ d ih =>
  intro i hi
  have hlt : i < l.length := by omega
  have h1 : (i : Int) < (l.length : Int) := by omega
  have h2 : (0 : Int) ≤ (i : Int) := by omega
  have h3 := next_i hlt hl
  have ih' := ih (i + 1) (by omega)
  rw [prev_next hlt] at ih'
  have hg : rd_T31 l (i : Int) = l[i] := rdD_cast _ hlt
  refine Ev.succ ?_
  rw [drop_get hlt]
  simp only [impl_FilesOk.l0, h1, h2, h3, if_true, hg, filesFrom, fileB]
  refine Ev.bind (impl_path l[i].f0 (hs _ (List.getElem_mem hlt))) ?_
  cases hp : pathB l[i].f0 with
  | false => simpa using Ev.some
  | true =>
   simp only [if_true, Bool.true_and]
   by_cases hz : (l[i].f1.size : Int) > 60
   ·simpa [hz] using Ev.some
   ·simp only [hz, if_false, decide_false, Bool.not_false, Bool.true_and]
    by_cases h0 : i = 0
    ·subst h0
     simpa [prevOf] using ih'
    ·have hp0 : (i : Int) > 0 := by omega
     have hw : wrap64 ((i : Int) - 1) = ((i - 1 : Nat) : Int) := by rw [wrap64_id (by omega) (by omega)]; omega
     have hgp : rd_T31 l ((i - 1 : Nat) : Int) = l[i - 1] := rdD_cast _ (by omega)
     have hpv : prevOf l i = some l[i - 1].f0 := by
      have := prev_next (l := l) (i := i - 1) (by omega)
      rwa [Nat.sub_add_cancel (by omega)] at this
     simp only [hp0, if_true, hw, show (0 : Int) ≤ ((i - 1 : Nat) : Int) by omega, show ((i - 1 : Nat) : Int) < (l.length : Int) by omega, hgp, hpv]
     cases hb : Op.bytesLess l[i - 1].f0.toList l[i].f0.toList with
     | true => simpa using ih'
     | false => simpa using Ev.some
theorem impl_files (l : List S31) (hl : l.length ≤ 9223372036854775807) (hs : ∀ x ∈ l, x.f0.size ≤ 16777216) : Ev (fun k => impl_FilesOk.f k l) (filesB l) := impl_files_l l hl hs l.length 0 (by omega)
end Go.Proofs.YtbaeljcnbkeipaaDoor.Pure
namespace Go.Proofs.YtbaeljcnbkeipaaDoor.Pure
open Go.RowKit Go.Proofs.YtbaeljcnbkeipaaDoorW.PrintWords Go.Proofs.YtbaeljcnbkeipaaDoor.Aux
def numOf (l : List UInt8) : Nat := l.foldl (fun a b => a * 10 + (b.toNat - 48)) 0
theorem numOf_snoc (l : List UInt8) (b : UInt8) : numOf (l ++ [b]) = numOf l * 10 + (b.toNat - 48) := by
 unfold numOf
 rw [List.foldl_append]
 rfl
theorem numOf_dec : ∀ (n u : Nat), u ≤ n → numOf (Lib.decDigits u) = u
 | 0, u, h => by
  obtain rfl : u = 0 := by omega
  rw [Lib.decDigits, dif_pos (by omega)]
  rfl
 | n + 1, u, h => by
  by_cases h9 : u < 10
  ·rw [Lib.decDigits, dif_pos h9]
   have := numOf_snoc [] (UInt8.ofNat (48 + u))
   rw [List.nil_append] at this
   rw [this, show numOf [] = 0 from rfl]
   simp
   omega
  ·rw [Lib.decDigits, dif_neg h9, numOf_snoc, numOf_dec n (u / 10) (by omega)]
   simp
   omega
theorem nums_size (l : List Int) : (strOfNums l).size = l.length := by
 unfold strOfNums
 simp [ByteArray.size]
end Go.Proofs.YtbaeljcnbkeipaaDoor.Pure
namespace Go.Proofs.YtbaeljcnbkeipaaDoor.Pure
open Go.RowKit Go.Proofs.YtbaeljcnbkeipaaDoor.PGA Go.Proofs.YtbaeljcnbkeipaaDoorW.PrintWords Go.Proofs.YtbaeljcnbkeipaaDoorW.PrintLast Go.Proofs.YtbaeljcnbkeipaaDoor.Aux
def q8 (p : ByteArray) : Bool := decide (3 ≤ p.size) && (decide (97 ≤ p.data.toList.headD 0) && decide (p.data.toList.headD 0 < 122))
def FileD (x : S31) : Prop := x.f0.size ≤ 40 ∧ x.f1.size ≤ 100
def Apart (l : List S31) : Prop := l.Pairwise fun x y => x.f0 ≠ y.f0
def FewD (n : Nat) (l : List S31) : Prop := l.length ≤ n ∧ (∀ x ∈ l, FileD x) ∧ Apart l
def FewQ (n : Nat) (l : List S31) : Prop := FewD n l ∧ ∀ x ∈ l, q8 x.f0 = true
theorem FewD.mono {m n : Nat} {l : List S31} (h : FewD m l) (hmn : m ≤ n) : FewD n l := ⟨Nat.le_trans h.1 hmn, h.2⟩
theorem FewQ.mono {m n : Nat} {l : List S31} (h : FewQ m l) (hmn : m ≤ n) : FewQ n l := ⟨h.1.mono hmn, h.2⟩
theorem FewQ.nil (n : Nat) : FewQ n [] := ⟨⟨Nat.zero_le _, fun _ h => (by cases h), List.Pairwise.nil⟩, fun _ h => (by cases h)⟩
theorem FewD.snoc {n : Nat} {l : List S31} {x : S31} (h : FewD n l) (hx : FileD x) (hne : ∀ y ∈ l, y.f0 ≠ x.f0) : FewD (n + 1) (l ++ [x]) := by
 refine ⟨by rw [List.length_append]; have := h.1; simp; omega, fun y hy => ?_, ?_⟩
 ·rcases List.mem_append.1 hy with hy | hy
  ·exact h.2.1 y hy
  ·rw [List.mem_singleton.1 hy]; exact hx
 ·unfold Apart
  rw [List.pairwise_append]
  exact ⟨h.2.2, List.pairwise_singleton _ _, fun a ha b hb => by rw [List.mem_singleton.1 hb]; exact hne a ha⟩
theorem draw_path8 (b : List Int) (i h : Int) (hc : Cur b i) : Got (fun k => spec_l5Path.f k b i h) fun r => (r.1.size ≤ 20 ∧ q8 r.1 = true) ∧ Cur b r.2.1 := by
 unfold spec_l5Path.f
 refine Got.bind (draw_str b i h _ (by simp) (by simp) hc) fun r hr => Got.some ⟨?_, hr.2⟩
 have hm := hr.1
 simp only [List.mem_cons, List.not_mem_nil, or_false] at hm
 rcases hm with e | e | e | e | e | e | e | e <;> rw [e] <;> exact ⟨by decide, by decide⟩
def Laid (l : List S31) (p : ByteArray) (i : Nat) (has : Bool) (out : List S31) : Prop := Apart out ∧ ∀ x ∈ out, (has = true ∧ x.f0 = p ∧ FileD x) ∨ (x ∈ l.take i ∧ x.f0 ≠ p)
theorem apart_at {l : List S31} (h : Apart l) {i : Nat} (hi : i < l.length) {x : S31} (hx : x ∈ l.take i) : x.f0 ≠ l[i].f0 := by
 unfold Apart at h
 rw [← List.take_append_drop i l, List.pairwise_append] at h
 refine h.2.2 x hx l[i] ?_
 rw [drop_get hi]
 exact List.mem_cons_self
theorem take_more {l : List S31} {i : Nat} (hi : i < l.length) {x : S31} (hx : x ∈ l.take i) : x ∈ l.take (i + 1) := by
 rw [List.take_succ_eq_append_getElem hi]
 exact List.mem_append_left _ hx
theorem Laid.pass {l : List S31} {p : ByteArray} {i : Nat} {has : Bool} {out : List S31} (h : Laid l p i has out) (hi : i < l.length) : Laid l p (i + 1) has out := ⟨h.1, fun x hx => by
 rcases h.2 x hx with c | c
 ·exact .inl c
 ·exact .inr ⟨take_more hi c.1, c.2⟩⟩
theorem Laid.put {l : List S31} {p t : ByteArray} {i : Nat} {out : List S31} (h : Laid l p i false out) (hf : FileD ⟨p, t⟩) : Laid l p i true (out ++ [⟨p, t⟩]) := by
 refine ⟨?_, fun x hx => ?_⟩
 ·unfold Apart
  rw [List.pairwise_append]
  refine ⟨h.1, List.pairwise_singleton _ _, fun a ha b hb => ?_⟩
  rw [List.mem_singleton.1 hb]
  rcases h.2 a ha with c | c
  ·cases c.1
  ·exact c.2
 ·rcases List.mem_append.1 hx with hx | hx
  ·rcases h.2 x hx with c | c
   ·cases c.1
   ·exact .inr c
  ·rw [List.mem_singleton.1 hx]
   exact .inl ⟨rfl, rfl, hf⟩
theorem Laid.next {l : List S31} {p : ByteArray} {i : Nat} {has : Bool} {out : List S31} (h : Laid l p i has out) (hl : Apart l) (hi : i < l.length) (hne : ¬ l[i].f0 = p) : Laid l p (i + 1) has (out ++ [⟨l[i].f0, l[i].f1⟩]) := by
 refine ⟨?_, fun x hx => ?_⟩
 ·unfold Apart
  rw [List.pairwise_append]
  refine ⟨h.1, List.pairwise_singleton _ _, fun a ha b hb => ?_⟩
  rw [List.mem_singleton.1 hb]
  rcases h.2 a ha with c | c
  ·rw [c.2.1]
   exact fun e => hne e.symm
  ·exact apart_at hl hi c.1
 ·rcases List.mem_append.1 hx with hx | hx
  ·rcases h.2 x hx with c | c
   ·exact .inl c
   ·exact .inr ⟨take_more hi c.1, c.2⟩
  ·rw [List.mem_singleton.1 hx]
   refine .inr ⟨?_, hne⟩
   rw [List.take_succ_eq_append_getElem hi]
   exact List.mem_append_right _ (List.mem_singleton.2 rfl)
theorem put_l8 (p t : ByteArray) (hf : FileD ⟨p, t⟩) (l : List S31) (hlen : l.length ≤ 1000) (hl : Apart l) (d : Nat) : ∀ (i n : Nat) (out : List S31) (has : Bool), i + d = l.length → n + 2 * d ≤ 10000 → out.length ≤ n → Laid l p i has out →
  Got (fun k => spec_l5Put.l0 k l out has (i : Int) p t) fun r => r.length ≤ n + d + (if has = true then 0 else 1) ∧ Laid l p l.length true r := by
 induction d with
 | zero =>
  intro i n out has hi hn hol ho
  obtain rfl : i = l.length := by omega
  refine Got.succ ?_
  simp only [spec_l5Put.l0, show ¬ (l.length : Int) < (l.length : Int) by omega, if_false]
  cases has with
  | true => simpa using Got.some (p := fun r => r.length ≤ n ∧ Laid l p l.length true r) ⟨hol, ho⟩
  | false =>
   simp only [Bool.false_eq_true, if_false, show out.length < 4398046511104 by omega, if_true]
   exact Got.some ⟨by rw [List.length_append]; simp; omega, ho.put hf⟩
 | succ d ih =>
  intro i n out has hi hn hol ho
  have hlt : i < l.length := by omega
  have h3 := next_i hlt (by omega)
  have hg : rd_T31 l (i : Int) = l[i] := rdD_cast _ hlt
  refine Got.succ ?_
  simp only [spec_l5Put.l0, show (i : Int) < (l.length : Int) by omega, if_true]
  refine Got.succ ?_
  simp only [spec_l5Put.j1, show (i : Int) < (l.length : Int) by omega, show (0 : Int) ≤ (i : Int) by omega, if_true, hg, h3, show out.length < 4398046511104 by omega, toList_inj]
  refine Got.cond (fun _ => Got.mono (ih (i + 1) n out has (by omega) (by omega) hol (ho.pass hlt)) fun r hr => ⟨by have := hr.1; omega, hr.2⟩) fun hne => ?_
  cases has with
  | true =>
   simp only [if_true]
   exact Got.mono (ih (i + 1) (n + 1) _ true (by omega) (by omega) (by rw [List.length_append]; simp; omega) (ho.next hl hlt hne)) fun r hr => ⟨by have := hr.1; simp at this; simp; omega, hr.2⟩
  | false =>
   simp only [Bool.false_eq_true, if_false]
   refine Got.cond (fun _ => ?_) fun _ => ?_
   ·simp only [Option.bind_some, show (out ++ [(⟨p, t⟩ : S31)]).length < 4398046511104 by rw [List.length_append]; simp; omega, if_true]
    exact Got.mono (ih (i + 1) (n + 1 + 1) _ true (by omega) (by omega) (by rw [List.length_append, List.length_append]; simp; omega) ((ho.put hf).next hl hlt hne)) fun r hr => ⟨by have := hr.1; simp at this; simp; omega, hr.2⟩
   ·exact Got.mono (ih (i + 1) (n + 1) _ false (by omega) (by omega) (by rw [List.length_append]; simp; omega) (ho.next hl hlt hne)) fun r hr => ⟨by have := hr.1; simp at this; simp; omega, hr.2⟩
theorem put_file8 (p t : ByteArray) (hp : p.size ≤ 40) (hq : q8 p = true) (ht : t.size ≤ 100) (n : Nat) (hn : n ≤ 900) (l : List S31) (hl : FewQ n l) : Got (fun k => spec_PutFile.f k l p t) fun r => FewQ (n + 1) r.1 := by
 unfold spec_PutFile.f spec_l5Put.f
 have hll := hl.1.1
 refine Got.bind (put_l8 p t ⟨hp, ht⟩ l (by omega) hl.1.2.2 l.length 0 0 [] false (by omega) (by omega) (by simp) ⟨List.Pairwise.nil, fun _ h => (by cases h)⟩) fun r hr => ?_
 have hrl := hr.1
 simp only [Bool.false_eq_true, if_false] at hr hrl
 have hmem : ∀ x ∈ r, FileD x ∧ q8 x.f0 = true := fun x hx => by
  rcases hr.2.2 x hx with c | c
  ·exact ⟨c.2.2, by rw [c.2.1]; exact hq⟩
  ·rw [List.take_length] at c
   exact ⟨hl.1.2.1 x c.1, hl.2 x c.1⟩
 refine Got.bind (Got.of (spec_files r (by omega) (fun x hx => by have := (hmem x hx).1.1; omega)) trivial : Got _ fun _ => True) fun b _ => ?_
 refine Got.cond (fun _ => Got.some ⟨⟨by show r.length ≤ n + 1; omega, fun x hx => (hmem x hx).1, hr.2.1⟩, fun x hx => (hmem x hx).2⟩) fun _ => ?_
 simp only [Option.bind_some, List.length_nil, Nat.zero_add, show l.length < 4398046511104 by omega, if_true, List.nil_append]
 exact Got.some (hl.mono (by omega))
theorem draw_files8_l (b : List Int) (d : Nat) : ∀ (n : Nat) (l : List S31) (i h : Int), n + d ≤ 100 → FewQ n l → Cur b i → Got (fun k => spec_l5Draw.l0 k l (d : Int) b i h) fun r => FewQ (n + d) r.1 ∧ Cur b r.2.1 := by
 induction d with
 | zero =>
  intro n l i h hn hl hc
  refine Got.succ ?_
  simp only [spec_l5Draw.l0, show ¬ ((0 : Nat) : Int) > 0 by omega, if_false]
  exact Got.some ⟨hl, hc⟩
 | succ d ih =>
  intro n l i h hn hl hc
  refine Got.succ ?_
  simp only [spec_l5Draw.l0, show ((d + 1 : Nat) : Int) > 0 by omega, if_true]
  refine Got.bind (draw_path8 _ _ _ hc) fun r1 h1 => ?_
  refine Got.bind (draw_str _ _ _ _ (by simp) (by simp) h1.2) fun r2 h2 => ?_
  have hm := h2.1
  simp only [List.mem_cons, List.not_mem_nil, or_false] at hm
  have ht : r2.1.size ≤ 100 := by rcases hm with e | e | e | e <;> rw [e] <;> decide
  refine Got.bind (put_file8 _ _ (by have := h1.1.1; omega) h1.1.2 ht n (by omega) l hl) fun r3 h3 => ?_
  rw [show wrap64 (((d + 1 : Nat) : Int) - 1) = (d : Int) from by rw [wrap64_id (by omega) (by omega)]; omega]
  exact Got.mono (ih (n + 1) _ _ _ (by omega) h3 h2.2) fun r hr => ⟨hr.1.mono (by omega), hr.2⟩
theorem draw_files8 (b : List Int) (i h : Int) (hc : Cur b i) : Got (fun k => spec_l5Draw.f k b i h) fun r => FewQ 8 r.1 ∧ Cur b r.2.1 := by
 unfold spec_l5Draw.f
 refine Got.bind (draw_below b i h 9 (by omega) (by omega) hc) fun r1 h1 => ?_
 obtain ⟨⟨x0, x1⟩, hc1⟩ := h1
 obtain ⟨m, hm⟩ := Int.eq_ofNat_of_zero_le x0
 rw [hm]
 exact Got.mono (draw_files8_l b m 0 [] _ _ (by omega) (FewQ.nil _) hc1) fun r hr => ⟨hr.1.mono (by omega), hr.2⟩
def zNum (j : Nat) : ByteArray := (⟨#[122]⟩ : ByteArray) ++ numB (10 + (j : Int))
theorem zNum_q (j : Nat) : q8 (zNum j) = false := by
 have h : (zNum j).data.toList.headD 0 = 122 := by
  unfold zNum
  simp
 unfold q8
 rw [h]
 simp
theorem zNum_inj {i j : Nat} (h : zNum i = zNum j) : i = j := by
 have h1 : (zNum i).data.toList = (zNum j).data.toList := by rw [h]
 unfold zNum at h1
 simp only [ByteArray.data_append, Array.toList_append, List.append_cancel_left_eq] at h1
 unfold numB at h1
 rw [data_ofL, data_ofL] at h1
 have h2 := congrArg numOf h1
 rw [numOf_dec _ _ (Nat.le_refl _), numOf_dec _ _ (Nat.le_refl _)] at h2
 omega
theorem draw_any8_l (b : List Int) (i h : Int) (hc : Cur b i) (d : Nat) : ∀ (j n : Nat) (l : List S31), j + d = 25 → n + d ≤ 100 → FewD n l → (∀ x ∈ l, q8 x.f0 = true ∨ ∃ m, m < j ∧ x.f0 = zNum m) → Got (fun k => spec_l5Any.l0 k l (j : Int) b i h) fun r => FewD (n + d) r.1 ∧ Cur b r.2.1 := by
 induction d with
 | zero =>
  intro j n l hj hn hl hq
  refine Got.succ ?_
  simp only [spec_l5Any.l0, show ¬ (j : Int) < 25 by omega, if_false]
  exact Got.some ⟨hl, hc⟩
 | succ d ih =>
  intro j n l hj hn hl hq
  have hll := hl.1
  have hw : wrap64 (10 + (j : Int)) = 10 + (j : Int) := wrap64_id (by omega) (by omega)
  have hw2 : wrap64 ((j : Int) + 1) = ((j + 1 : Nat) : Int) := by rw [wrap64_id (by omega) (by omega)]; omega
  have hs : (numB (10 + (j : Int))).size ≤ 19 := by
   unfold numB
   rw [ofL_size, Lib.decDigits]
   split
   ·simp
   ·rw [Lib.decDigits, dif_pos (by omega)]
    simp
  refine Got.succ ?_
  simp only [spec_l5Any.l0, show (j : Int) < 25 by omega, if_true, hw, hw2]
  refine Got.bind (Got.of (spec_num _ (by omega)) rfl : Got _ fun r => r = numB (10 + (j : Int))) fun r hr => ?_
  subst hr
  simp only [show 1 + (numB (10 + (j : Int))).size ≤ 9223372036854775807 by omega, if_true, show l.length < 4398046511104 by omega]
  refine Got.mono (ih (j + 1) (n + 1) _ (by omega) (by omega) (hl.snoc ⟨by show (_ ++ _ : ByteArray).size ≤ 40; rw [ByteArray.size_append, show (⟨#[122]⟩ : ByteArray).size = 1 from rfl]; omega, by show (⟨#[]⟩ : ByteArray).size ≤ 100; decide⟩ (fun y hy => ?_)) (fun y hy => ?_)) fun r hr => ⟨hr.1.mono (by omega), hr.2⟩
  ·show y.f0 ≠ zNum j
   intro e
   rcases hq y hy with c | ⟨m, hm, c⟩
   ·rw [e, zNum_q] at c
    cases c
   ·rw [c] at e
    have := zNum_inj e
    omega
  ·rcases List.mem_append.1 hy with hy | hy
   ·rcases hq y hy with c | ⟨m, hm, c⟩
    ·exact .inl c
    ·exact .inr ⟨m, by omega, c⟩
   ·rw [List.mem_singleton.1 hy]
    exact .inr ⟨j, by omega, rfl⟩
theorem draw_any8 (b : List Int) (i h : Int) (hc : Cur b i) : Got (fun k => spec_l5Any.f k b i h) fun r => FewD 33 r.1 ∧ Cur b r.2.1 := by
 unfold spec_l5Any.f
 refine Got.bind (draw_files8 b i h hc) fun r hr => ?_
 have hrl := hr.1.1.1
 refine Got.bind (draw_below b _ _ 8 (by omega) (by omega) hr.2) fun r1 h1 => ?_
 simp only [show r.1.length < 4398046511104 by omega, if_true]
 have other : ∀ p : ByteArray, q8 p = false → ∀ y ∈ r.1, y.f0 ≠ p := fun p hp y hy e => by
  have := hr.1.2 y hy
  rw [e, hp] at this
  cases this
 refine Got.cond (fun _ => ?_) fun _ => Got.cond (fun _ => ?_) fun _ => Got.cond (fun _ => ?_) fun _ => Got.some ⟨hr.1.1.mono (by omega), h1.2⟩
 ·refine Got.bind (draw_str b _ _ _ (by simp) (by simp) h1.2) fun r2 h2 => ?_
  have hm := h2.1
  simp only [List.mem_cons, List.not_mem_nil, or_false] at hm
  have hz : r2.1.size ≤ 40 ∧ q8 r2.1 = false := by
   rcases hm with e | e | e | e | e | e | e | e <;> rw [e] <;> exact ⟨by decide, by decide⟩
  exact Got.some ⟨(hr.1.1.snoc ⟨hz.1, by show (⟨#[]⟩ : ByteArray).size ≤ 100; decide⟩ (other _ hz.2)).mono (by omega), h2.2⟩
 ·refine Got.bind (draw_below b _ _ 2 (by omega) (by omega) h1.2) fun r2 h2 => ?_
  obtain ⟨⟨y0, y1⟩, hc2⟩ := h2
  have hw : wrap64 (60 + r2.1) = 60 + r2.1 := wrap64_id (by omega) (by omega)
  simp only [hw, show (0 : Int) ≤ 60 + r2.1 by omega, show (60 + r2.1).toNat ≤ 281474976710656 by omega, if_true]
  exact Got.some ⟨(hr.1.1.snoc ⟨by show (⟨#[122, 122]⟩ : ByteArray).size ≤ 40; decide, by show (strOfNums _).size ≤ 100; rw [nums_size, List.length_replicate]; omega⟩ (other (⟨#[122, 122]⟩ : ByteArray) (by decide))).mono (by omega), hc2⟩
 ·exact Got.mono (draw_any8_l b _ _ h1.2 25 0 8 _ (by omega) (by omega) hr.1.1 (fun x hx => .inl (hr.1.2 x hx))) fun r2 h2 => ⟨h2.1.mono (by omega), h2.2⟩
def fAt (l : List S31) (a : ByteArray) (i : Nat) : Int := impl_fileAt_idx (fun x => x.f0.toList == a.toList) l i
theorem fAt_range (l : List S31) (a : ByteArray) (i : Nat) : fAt l a i = -1 ∨ (0 ≤ fAt l a i ∧ fAt l a i < l.length) := by
 unfold fAt impl_fileAt_idx
 cases h : (l.drop i).findIdx? (fun x => x.f0.toList == a.toList) with
 | none => exact .inl rfl
 | some j =>
  right
  have := List.findIdx?_eq_some_iff_findIdx_eq.1 h
  rw [List.length_drop] at this
  simp only
  omega
theorem spec_at_l (l : List S31) (a : ByteArray) (hl : l.length ≤ 9223372036854775807) (d : Nat) : ∀ i : Nat, i + d = l.length → Ev (fun k => spec_l5At.l0 k l a (i : Int)) (fAt l a i) := by
 induction d with
 | zero =>
  intro i hi
  have h1 : ¬ (i : Int) < (l.length : Int) := by omega
  refine Ev.succ ?_
  simp only [spec_l5At.l0, h1, if_false]
  exact Ev.cast Ev.some (impl_fileAt_idx_end _ l i (by omega)).symm
 | succ d ih =>
  intro i hi
  have hlt : i < l.length := by omega
  have h1 : (i : Int) < (l.length : Int) := by omega
  have h2 : (0 : Int) ≤ (i : Int) := by omega
  have h3 := next_i hlt hl
  have hg : rd_T31 l (i : Int) = l[i] := rdD_cast _ hlt
  refine Ev.succ ?_
  simp only [spec_l5At.l0, h1, h2, h3, if_true, hg]
  by_cases h : l[i].f0.toList = a.toList
  ·simp only [h, if_true]
   exact Ev.cast Ev.some (impl_fileAt_idx_hit _ l i hlt (by simp [h])).symm
  ·simp only [h, if_false]
   exact Ev.cast (ih (i + 1) (by omega)) (impl_fileAt_idx_step _ l i hlt (by simp [h])).symm
def getM (l : List S31) (a : ByteArray) : ByteArray × Bool := if fAt l a 0 < 0 then ((⟨#[]⟩ : ByteArray), false) else ((rd_T31 l (fAt l a 0)).f1, true)
theorem spec_get (l : List S31) (a : ByteArray) (hl : l.length ≤ 9223372036854775807) : Ev (fun k => spec_GetFile.f k l a) (getM l a) := by
 unfold spec_GetFile.f spec_l5At.f getM
 refine Ev.bind (spec_at_l l a hl l.length 0 (by omega)) ?_
 rcases fAt_range l a 0 with h | ⟨h0, h1⟩
 ·rw [h]; exact Ev.some
 ·simp only [show ¬ fAt l a 0 < 0 by omega, h0, h1, if_true, if_false]
  exact Ev.some
theorem impl_get (l : List S31) (a : ByteArray) : impl_GetFile.f l a = some (getM l a) := by
 unfold impl_GetFile.f impl_fileAt.f getM
 show (some (fAt l a 0)).bind _ = _
 rw [Option.bind_some]
 rcases fAt_range l a 0 with h | ⟨h0, h1⟩
 ·rw [h]; rfl
 ·simp only [show ¬ fAt l a 0 < 0 by omega, h0, h1, if_true, if_false]
def dropM (l : List S31) (a : ByteArray) : List S31 × Bool :=
 if fAt l a 0 < 0 then (l, false) else if filesB (l.eraseIdx (fAt l a 0).toNat) = true then (l.eraseIdx (fAt l a 0).toNat, true) else (l, false)
theorem erase_mem {l : List S31} {i : Nat} {x : S31} (h : x ∈ l.eraseIdx i) : x ∈ l := List.mem_of_mem_eraseIdx h
theorem erase_cut (l : List S31) (i : Nat) : l.take i ++ l.drop (i + 1) = l.eraseIdx i := (List.eraseIdx_eq_take_drop_succ l i).symm
theorem spec_drop (l : List S31) (a : ByteArray) (hl : l.length ≤ 16777216) (hs : ∀ x ∈ l, x.f0.size ≤ 16777216) : Ev (fun k => spec_DropFile.f k l a) (dropM l a) := by
 unfold spec_DropFile.f spec_l5At.f dropM
 simp only [Option.bind_some, List.length_nil, Nat.zero_add, show l.length < 4398046511104 by omega, if_true, List.nil_append]
 refine Ev.bind (spec_at_l l a (by omega) l.length 0 (by omega)) ?_
 rcases fAt_range l a 0 with h | ⟨h0, h1⟩
 ·rw [h]
  exact Ev.some
 ·obtain ⟨i, hi⟩ : ∃ i : Nat, fAt l a 0 = i := ⟨(fAt l a 0).toNat, by omega⟩
  rw [hi] at h0 h1 ⊢
  have h3 := next_i (show i < l.length by omega) (by omega)
  have hm : ∀ x ∈ l.eraseIdx i, x.f0.size ≤ 16777216 := fun x hx => hs x (erase_mem hx)
  have hml : (l.eraseIdx i).length ≤ l.length := List.length_eraseIdx_le _ _
  simp only [show ¬ (i : Int) < 0 by omega, if_false, h0, show (i : Int) ≤ (l.length : Int) by omega, if_true, Int.toNat_natCast, h3, show (0 : Int) ≤ ((i + 1 : Nat) : Int) by omega, show ((i + 1 : Nat) : Int) ≤ (l.length : Int) by omega,
   show (l.take i).length < 4398046511104 by rw [List.length_take]; omega, show (l.take i).length + (l.drop (i + 1)).length < 4398046511104 by rw [List.length_take, List.length_drop]; omega, erase_cut]
  refine Ev.bind (spec_files _ (by omega) hm) ?_
  cases filesB (l.eraseIdx i) with
  | true => simpa using Ev.some
  | false => simpa using Ev.some
theorem impl_drop (l : List S31) (a : ByteArray) (hl : l.length ≤ 16777216) (hs : ∀ x ∈ l, x.f0.size ≤ 16777216) : Ev (fun k => impl_DropFile.f k l a) (dropM l a) := by
 have hc : impl_File_59.f l = some l := by
  unfold impl_File_59.f
  simp only [Option.bind_some, List.length_nil, Nat.zero_add, show l.length < 4398046511104 by omega, if_true, List.nil_append]
 have hf : impl_fileAt.f l a = some (fAt l a 0) := rfl
 unfold impl_DropFile.f impl_DropFile.go dropM
 simp only [hc, hf, Option.bind_some]
 rcases fAt_range l a 0 with h | ⟨h0, h1⟩
 ·rw [h]
  exact Ev.some
 ·obtain ⟨i, hi⟩ : ∃ i : Nat, fAt l a 0 = i := ⟨(fAt l a 0).toNat, by omega⟩
  rw [hi] at h0 h1 ⊢
  have hm : ∀ x ∈ l.eraseIdx i, x.f0.size ≤ 16777216 := fun x hx => hs x (erase_mem hx)
  have hml : (l.eraseIdx i).length ≤ l.length := List.length_eraseIdx_le _ _
  simp only [show ¬ (i : Int) < 0 by omega, if_false, h1, if_true, Int.toNat_natCast]
  refine Ev.bind (impl_files _ (by omega) hm) ?_
  cases filesB (l.eraseIdx i) with
  | true => simpa using Ev.some
  | false => simpa using Ev.some
theorem dropM_mem (l : List S31) (a : ByteArray) : (dropM l a).1.length ≤ l.length ∧ ∀ x ∈ (dropM l a).1, x ∈ l := by
 unfold dropM
 split
 ·exact ⟨Nat.le_refl _, fun _ h => h⟩
 split
 ·exact ⟨List.length_eraseIdx_le _ _, fun _ h => erase_mem h⟩
 ·exact ⟨Nat.le_refl _, fun _ h => h⟩
end Go.Proofs.YtbaeljcnbkeipaaDoor.Pure
namespace Go.Proofs.YtbaeljcnbkeipaaDoor.Pure
open Go.RowKit Go.Proofs.YtbaeljcnbkeipaaDoor.Aux
def bl (x y : List UInt8) : Prop := Op.bytesLess x y = true
theorem bl_tr : ∀ x y z : List UInt8, Op.bytesLess x y = true → Op.bytesLess y z = true → Op.bytesLess x z = true
 | x, y, z, h, h' => by
  rw [bytesLess_eq, decide_eq_true_eq] at h h' ⊢
  exact List.lt_trans h h'
theorem bl_irr (x : List UInt8) : ¬ bl x x := by
 unfold bl
 have h := Mine.less_turned x x
 simp only [beq_self_eq_true, Bool.or_true, Bool.not_true] at h
 rw [h]
 simp
theorem bl_or (x y : List UInt8) : bl x y ∨ x = y ∨ bl y x := by
 unfold bl
 have h := Mine.less_turned x y
 cases hx : Op.bytesLess x y with
 | true => exact .inl rfl
 | false =>
  rw [hx, Bool.false_or] at h
  by_cases e : x = y
  ·exact .inr (.inl e)
  ·refine .inr (.inr ?_)
   rw [h]
   simp [e]
theorem le_iff (x y : List UInt8) : x ≤ y ↔ ¬ bl y x := by
 unfold bl
 rw [bytesLess_eq, decide_eq_true_eq]
 exact List.not_lt.symm
theorem asc_one : ∀ {l m : List (List UInt8)}, l.Pairwise bl → m.Pairwise bl → (∀ x, x ∈ l ↔ x ∈ m) → l = m
 | [], [], _, _, _ => rfl
 | [], y :: m, _, _, h => absurd ((h y).2 (by simp)) (by simp)
 | x :: l, [], _, _, h => absurd ((h x).1 (by simp)) (by simp)
 | x :: l, y :: m, hl, hm, h => by
  obtain ⟨hx, hl'⟩ := List.pairwise_cons.1 hl
  obtain ⟨hy, hm'⟩ := List.pairwise_cons.1 hm
  have e : x = y := by
   rcases List.mem_cons.1 ((h x).1 (by simp)) with e | e
   ·exact e
   rcases List.mem_cons.1 ((h y).2 (by simp)) with e' | e'
   ·exact e'.symm
   ·exact absurd (bl_tr _ _ _ (hx _ e') (hy _ e)) (bl_irr _)
  subst e
  refine congrArg (List.cons x) (asc_one hl' hm' fun z => ?_)
  constructor
  ·intro hz
   rcases List.mem_cons.1 ((h z).1 (List.mem_cons_of_mem _ hz)) with e | e
   ·exact absurd (e ▸ hx z hz) (bl_irr _)
   ·exact e
  ·intro hz
   rcases List.mem_cons.1 ((h z).2 (List.mem_cons_of_mem _ hz)) with e | e
   ·exact absurd (e ▸ hy z hz) (bl_irr _)
   ·exact e
theorem compact_upto (d : Array (List UInt8)) (hs : ∀ i j, i < j → j < d.size → ¬ bl d[j]! d[i]!) : ∀ m, m ≤ d.size →
  (Lib.compactUpTo d m).Pairwise bl ∧ (∀ x, x ∈ Lib.compactUpTo d m ↔ ∃ i, i < m ∧ x = d[i]!)
 | 0, _ => by
  refine ⟨by simp [Lib.compactUpTo], fun x => ?_⟩
  simp [Lib.compactUpTo]
 | m + 1, hm => by
  obtain ⟨h1, h2⟩ := compact_upto d hs m (by omega)
  rw [Lib.compactUpTo_succ]
  by_cases hk : Lib.keeps d m = true
  ·rw [if_pos hk]
   have new : ∀ i, i < m → bl d[i]! d[m]! := by
    intro i hi
    rcases bl_or d[i]! d[m]! with h | h | h
    ·exact h
    ·-- then all between are the same, and the last one is left out
     exfalso
     have e : d[m]! = d[m - 1]! := by
      by_cases him : i = m - 1
      ·rw [← him, h]
      ·rcases bl_or d[m - 1]! d[m]! with g | g | g
       ·exact absurd (h ▸ g) (hs i (m - 1) (by omega) (by omega))
       ·exact g.symm
       ·exact absurd g (hs (m - 1) m (by omega) (by omega))
     rw [Lib.keeps_neg (by omega) e] at hk
     exact absurd hk (by simp)
    ·exact absurd h (hs i m hi (by omega))
   refine ⟨?_, fun x => ?_⟩
   ·rw [List.pairwise_append]
    refine ⟨h1, by simp, fun a ha b hb => ?_⟩
    rw [List.mem_singleton.1 hb]
    obtain ⟨i, hi, rfl⟩ := (h2 a).1 ha
    exact new i hi
   ·rw [List.mem_append, h2, List.mem_singleton]
    constructor
    ·rintro (⟨i, hi, e⟩ | e)
     ·exact ⟨i, by omega, e⟩
     ·exact ⟨m, by omega, e⟩
    ·rintro ⟨i, hi, e⟩
     by_cases h : i = m
     ·exact .inr (h ▸ e)
     ·exact .inl ⟨i, by omega, e⟩
  ·rw [if_neg hk, List.append_nil]
   refine ⟨h1, fun x => ?_⟩
   rw [h2]
   constructor
   ·rintro ⟨i, hi, e⟩
    exact ⟨i, by omega, e⟩
   ·rintro ⟨i, hi, e⟩
    by_cases h : i = m
    ·subst h
     have hm0 : 0 < i := by
      apply Nat.pos_of_ne_zero
      rintro rfl
      exact hk (Lib.keeps_lt_one d 0 (by omega))
     by_cases g : d[i]! = d[i - 1]!
     ·exact ⟨i - 1, by omega, by rw [e, g]⟩
     ·exact absurd (Lib.keeps_pos g) hk
    ·exact ⟨i, by omega, e⟩
theorem sorted_compact (l : List (List UInt8)) : (Lib.compact (l.mergeSort fun x y => decide (x ≤ y))).Pairwise bl ∧ ∀ x, x ∈ Lib.compact (l.mergeSort fun x y => decide (x ≤ y)) ↔ x ∈ l := by
 have hp := List.pairwise_mergeSort (le := fun x y : List UInt8 => decide (x ≤ y)) (fun a b c h h' => by
  rw [decide_eq_true_eq] at h h' ⊢
  exact List.le_trans h h') (fun a b => by
  rcases List.le_total a b with h | h
  ·simp [h]
  ·simp [h]) l
 generalize hq : (l.mergeSort fun x y => decide (x ≤ y)) = q at hp
 have hmem : ∀ x, x ∈ q ↔ x ∈ l := fun x => by rw [← hq]; exact List.mem_mergeSort
 have hs : ∀ i j, i < j → j < q.toArray.size → ¬ bl q.toArray[j]! q.toArray[i]! := by
  intro i j hij hj
  have hj' : j < q.length := by simpa using hj
  have h := List.pairwise_iff_getElem.1 hp i j (by omega) hj' hij
  rw [decide_eq_true_eq, le_iff] at h
  simpa [getElem!_pos, hj', show i < q.length by omega] using h
 obtain ⟨h1, h2⟩ := compact_upto q.toArray hs q.length (by simp)
 refine ⟨h1, fun x => ?_⟩
 rw [← hmem]
 refine (h2 x).trans ?_
 rw [List.mem_iff_getElem]
 constructor
 ·rintro ⟨i, hi, e⟩
  exact ⟨i, hi, by rw [e]; simp [getElem!_pos, hi]⟩
 ·rintro ⟨i, hi, e⟩
  exact ⟨i, hi, by rw [← e]; simp [getElem!_pos, hi]⟩
end Go.Proofs.YtbaeljcnbkeipaaDoor.Pure
namespace Go.Proofs.YtbaeljcnbkeipaaDoor.Pure
open Go.RowKit Go.Proofs.YtbaeljcnbkeipaaDoor.PGA Go.Proofs.YtbaeljcnbkeipaaDoorW.PrintWords Go.Proofs.YtbaeljcnbkeipaaDoorW.PrintLast Go.Proofs.YtbaeljcnbkeipaaDoor.Aux
def blB (a b : ByteArray) : Prop := bl a.toList b.toList
theorem blB_tr {a b c : ByteArray} (h : blB a b) (h' : blB b c) : blB a c := bl_tr _ _ _ h h'
theorem blB_or (a b : ByteArray) : blB a b ∨ a = b ∨ blB b a := by
 rcases bl_or a.toList b.toList with h | h | h
 ·exact .inl h
 ·exact .inr (.inl (toList_inj.1 h))
 ·exact .inr (.inr h)
theorem ascB_one {l m : List ByteArray} (hl : l.Pairwise blB) (hm : m.Pairwise blB) (h : ∀ x, x ∈ l ↔ x ∈ m) : l = m := by
 have e : l.map ByteArray.toList = m.map ByteArray.toList := asc_one (List.pairwise_map.2 hl) (List.pairwise_map.2 hm) (fun x => by
  rw [List.mem_map, List.mem_map]
  constructor
  ·rintro ⟨a, ha, rfl⟩; exact ⟨a, (h a).1 ha, rfl⟩
  ·rintro ⟨a, ha, rfl⟩; exact ⟨a, (h a).2 ha, rfl⟩)
 exact (List.map_inj_right (fun x y hxy => toList_inj.1 hxy)).1 e
def sortB (l : List ByteArray) : List ByteArray := impl_Sorted.once (impl_Sorted.rise l)
theorem sortB_eq (l : List ByteArray) : sortB l = impl_Sorted.back (Lib.compact ((impl_Sorted.strs l).mergeSort fun x y => decide (x ≤ y))) := by
 unfold sortB impl_Sorted.once impl_Sorted.rise
 rw [impl_Sorted.strs_back]
theorem sortB_spec (l : List ByteArray) : (sortB l).Pairwise blB ∧ ∀ x, x ∈ sortB l ↔ x ∈ l := by
 obtain ⟨h1, h2⟩ := sorted_compact (impl_Sorted.strs l)
 rw [sortB_eq]
 refine ⟨?_, fun x => ?_⟩
 ·unfold impl_Sorted.back
  rw [List.pairwise_map]
  refine h1.imp ?_
  intro a b hab
  unfold blB
  rw [toList_data, toList_data]
  exact hab
 ·unfold impl_Sorted.back
  rw [List.mem_map]
  constructor
  ·rintro ⟨a, ha, rfl⟩
   have := (h2 a).1 ha
   unfold impl_Sorted.strs at this
   obtain ⟨y, hy, rfl⟩ := List.mem_map.1 this
   exact hy
  ·intro hx
   exact ⟨x.data.toList, (h2 _).2 (List.mem_map.2 ⟨x, hx, rfl⟩), rfl⟩
theorem sortB_length (l : List ByteArray) : (sortB l).length ≤ l.length := by
 rw [sortB_eq]
 unfold impl_Sorted.back
 rw [List.length_map]
 refine Nat.le_trans (Lib.compact_length_le _) ?_
 rw [List.length_mergeSort]
 unfold impl_Sorted.strs
 rw [List.length_map]
 exact Nat.le_refl _
theorem impl_sorted (l : List ByteArray) (hl : l.length < 8796093022208) : impl_Sorted.f l = some (sortB l) := by
 unfold impl_Sorted.f slices_Clone_string_string.f
 simp [hl, sortB]
open Classical in
theorem l1Has_l (l : List ByteArray) (s : ByteArray) (hl : l.length ≤ 9223372036854775807) (d : Nat) : ∀ i : Nat, i + d = l.length → Ev (fun k => spec_l1Has.l0 k l s (i : Int)) (decide (s ∈ l.drop i)) := by
 induction d with
 | zero =>
  intro i hi
  have h1 : ¬ (i : Int) < (l.length : Int) := by omega
  refine Ev.succ ?_
  rw [List.drop_eq_nil_of_le (by omega)]
  simp only [spec_l1Has.l0, h1, if_false, List.not_mem_nil, decide_false]
  exact Ev.some
 | succ d ih =>
  intro i hi
  have hlt : i < l.length := by omega
  have h1 : (i : Int) < (l.length : Int) := by omega
  have h2 : (0 : Int) ≤ (i : Int) := by omega
  have h3 := next_i hlt hl
  refine Ev.succ ?_
  rw [drop_get hlt]
  simp only [spec_l1Has.l0, h1, h2, h3, if_true, rdOf_cast _ hlt, toList_inj]
  by_cases h : l[i] = s
  ·simp only [h, if_true, List.mem_cons, true_or, decide_true]
   exact Ev.some
  ·have h' : ¬ s = l[i] := fun e => h e.symm
   simp only [h, h', if_false, List.mem_cons, false_or]
   exact ih (i + 1) (by omega)
open Classical in
theorem l1Has (l : List ByteArray) (s : ByteArray) (hl : l.length ≤ 9223372036854775807) : Ev (fun k => spec_l1Has.f k l s) (decide (s ∈ l)) := by
 unfold spec_l1Has.f
 have := l1Has_l l s hl l.length 0 (by omega)
 simpa using this
theorem ins_ok {out : List ByteArray} {s : ByteArray} {q : Nat} (hs : out.Pairwise blB) (hq : q ≤ out.length) (hlo : ∀ x ∈ out.take q, blB x s) (hhi : ∀ x ∈ out.drop q, blB s x) :
  (out.take q ++ s :: out.drop q).Pairwise blB ∧ (∀ x, x ∈ out.take q ++ s :: out.drop q ↔ x = s ∨ x ∈ out) ∧ (out.take q ++ s :: out.drop q).length = out.length + 1 := by
 refine ⟨?_, fun x => ?_, ?_⟩
 ·rw [List.pairwise_append]
  refine ⟨hs.sublist (List.take_sublist _ _), List.pairwise_cons.2 ⟨hhi, hs.sublist (List.drop_sublist _ _)⟩, fun a ha b hb => ?_⟩
  rcases List.mem_cons.1 hb with rfl | hb
  ·exact hlo a ha
  ·exact blB_tr (hlo a ha) (hhi b hb)
 ·have e : x ∈ out ↔ x ∈ out.take q ∨ x ∈ out.drop q := by
   rw [← List.mem_append, List.take_append_drop]
  rw [List.mem_append, List.mem_cons, e]
  constructor
  ·rintro (h | h | h)
   ·exact .inr (.inl h)
   ·exact .inl h
   ·exact .inr (.inr h)
  ·rintro (h | h | h)
   ·exact .inr (.inl h)
   ·exact .inl h
   ·exact .inr (.inr h)
 ·rw [List.length_append, List.length_cons, List.length_take, List.length_drop]
  omega
theorem set_split {x3 out : List ByteArray} {s : ByteArray} {q : Nat} (hl : x3.length = out.length + 1) (hq : q ≤ out.length) (h1 : x3.take q = out.take q) (h2 : x3.drop (q + 1) = out.drop q) : x3.set q s = out.take q ++ s :: out.drop q := by
 rw [List.set_eq_take_append_cons_drop, if_pos (by omega), h1, h2]
theorem sorted_in (l : List ByteArray) (hl : l.length < 8796093022208) (i : Nat) (hi : i < l.length) (out : List ByteArray) (ho : out.length ≤ i) (hs : out.Pairwise blB) (hn : ¬ l[i] ∈ out) (r : List ByteArray)
  (h : ∀ m : List ByteArray, m.Pairwise blB → (∀ x, x ∈ m ↔ x = l[i] ∨ x ∈ out) → m.length = out.length + 1 → Ev (fun k => spec_Sorted.l0 k l m ((i + 1 : Nat) : Int)) r) :
  ∀ (q : Nat) (x3 : List ByteArray), q ≤ out.length → x3.length = out.length + 1 → x3.take q = out.take q → x3.drop (q + 1) = out.drop q → (∀ x ∈ out.drop q, blB l[i] x) → Ev (fun k => spec_Sorted.l1 k l x3 (i : Int) (q : Int)) r := by
 intro q
 have a1 : (0 : Int) ≤ (i : Int) := by omega
 have a2 : (i : Int) < (l.length : Int) := by omega
 have a3 := next_i hi (by omega)
 induction q with
 | zero =>
  intro x3 hq hx h1 h2 h3
  refine Ev.succ ?_
  simp only [spec_Sorted.l1, show ¬ ((0 : Nat) : Int) > 0 by omega, if_false, a1, a2, if_true, show (0 : Int) ≤ ((0 : Nat) : Int) by omega, show ((0 : Nat) : Int) < (x3.length : Int) by omega, a3, Int.toNat_natCast, rdOf_cast _ hi]
  rw [set_split (s := l[i]) hx hq h1 h2]
  obtain ⟨m1, m2, m3⟩ := ins_ok (s := l[i]) hs hq (by simp) h3
  exact h _ m1 m2 m3
 | succ q ih =>
  intro x3 hq hx h1 h2 h3
  have b0 : wrap64 (((q + 1 : Nat) : Int) - 1) = (q : Int) := by rw [wrap64_id (by omega) (by omega)]; omega
  have hqx : q < x3.length := by omega
  have hqo : q < out.length := by omega
  have e : x3[q] = out[q] := by
   have t := congrArg (fun z => z[q]?) h1
   simp only [List.getElem?_take] at t
   rw [if_pos (by omega), if_pos (by omega), List.getElem?_eq_getElem hqx, List.getElem?_eq_getElem hqo] at t
   exact Option.some.inj t
  refine Ev.succ ?_
  simp only [spec_Sorted.l1, show ((q + 1 : Nat) : Int) > 0 by omega, b0, if_true, a1, a2, a3, show (0 : Int) ≤ (q : Int) by omega, show (q : Int) < (x3.length : Int) by omega, show (0 : Int) ≤ ((q + 1 : Nat) : Int) by omega, show ((q + 1 : Nat) : Int) < (x3.length : Int) by omega, Int.toNat_natCast, rdOf_cast _ hi, rdOf_cast _ hqx, e]
  by_cases c : Op.bytesLess l[i].toList out[q].toList = true
  ·simp only [c, if_true]
   refine ih (x3.set (q + 1) out[q]) (by omega) (by simpa using hx) ?_ ?_ ?_
   ·rw [List.take_set_of_le (by omega)]
    have t := congrArg (List.take q) h1
    rwa [List.take_take, List.take_take, Nat.min_eq_left (by omega)] at t
   ·rw [List.drop_set, if_neg (by omega), Nat.sub_self, drop_get (show q + 1 < x3.length by omega), List.set_cons_zero, h2, ← drop_get hqo]
   ·intro x hx'
    rw [drop_get hqo] at hx'
    rcases List.mem_cons.1 hx' with rfl | hx'
    ·exact c
    ·exact h3 x hx'
  ·simp only [c, if_false]
   rw [set_split (s := l[i]) hx hq h1 h2]
   have g : blB out[q] l[i] := by
    rcases blB_or l[i] out[q] with g | g | g
    ·exact absurd g c
    ·exact absurd (g ▸ List.getElem_mem hqo) hn
    ·exact g
   obtain ⟨m1, m2, m3⟩ := ins_ok (s := l[i]) hs hq (fun x hx' => by
    rw [List.take_succ_eq_append_getElem hqo] at hx'
    rcases List.mem_append.1 hx' with hx' | hx'
    ·have p := hs
     rw [← List.take_append_drop q out, List.pairwise_append] at p
     refine blB_tr (p.2.2 x hx' out[q] ?_) g
     rw [drop_get hqo]
     exact List.mem_cons_self
    ·rw [List.mem_singleton.1 hx']
     exact g) h3
   exact h _ m1 m2 m3
open Classical in
theorem spec_sorted_l (l : List ByteArray) (hl : l.length < 8796093022208) (d : Nat) : ∀ (i : Nat) (out : List ByteArray), i + d = l.length → out.length ≤ i → out.Pairwise blB → (∀ x, x ∈ out ↔ x ∈ l.take i) → Ev (fun k => spec_Sorted.l0 k l out (i : Int)) (sortB l) := by
 induction d with
 | zero =>
  intro i out hi ho hs hm
  have h1 : ¬ (i : Int) < (l.length : Int) := by omega
  obtain ⟨s1, s2⟩ := sortB_spec l
  have e : out = sortB l := ascB_one hs s1 (fun x => by rw [hm, s2, List.take_of_length_le (by omega)])
  subst e
  refine Ev.succ ?_
  simp only [spec_Sorted.l0, h1, if_false]
  exact Ev.some
 | succ d ih =>
  intro i out hi ho hs hm
  have hlt : i < l.length := by omega
  have h1 : (i : Int) < (l.length : Int) := by omega
  have h2 : (0 : Int) ≤ (i : Int) := by omega
  have h3 := next_i hlt (by omega)
  have ht : ∀ x, x ∈ l.take (i + 1) ↔ x ∈ l.take i ∨ x = l[i] := fun x => by rw [List.take_succ_eq_append_getElem hlt, List.mem_append, List.mem_singleton]
  refine Ev.succ ?_
  simp only [spec_Sorted.l0, h1, if_true]
  refine Ev.succ ?_
  simp only [spec_Sorted.j1, h1, h2, if_true, rdOf_cast _ hlt]
  refine Ev.bind (l1Has out l[i] (by omega)) ?_
  by_cases c : l[i] ∈ out
  ·simp only [c, decide_true, if_true, h3]
   refine ih (i + 1) out (by omega) (by omega) hs (fun x => ?_)
   rw [ht, ← hm]
   constructor
   ·exact .inl
   ·rintro (h | h)
    ·exact h
    ·exact h ▸ c
  ·simp only [c, decide_false, Bool.false_eq_true, if_false]
   refine Ev.succ ?_
   have b0 : wrap64 (((out ++ [l[i]]).length : Int) - 1) = (out.length : Int) := by
    rw [List.length_append, List.length_singleton, wrap64_id (by omega) (by omega)]
    omega
   simp only [spec_Sorted.j2, h1, h2, if_true, rdOf_cast _ hlt, show out.length < 8796093022208 by omega, Option.bind_some, b0]
   refine sorted_in l hl i hlt out ho hs c (sortB l) (fun m m1 m2 m3 => ?_) out.length (out ++ [l[i]]) (Nat.le_refl _) (by simp) (by simp) (by simp) (by simp)
   refine ih (i + 1) m (by omega) (by omega) m1 (fun x => ?_)
   rw [m2, ht, ← hm]
   exact Or.comm
theorem spec_sorted (l : List ByteArray) (hl : l.length < 8796093022208) : Ev (fun k => spec_Sorted.f k l) (sortB l) := by
 unfold spec_Sorted.f
 have := spec_sorted_l l hl l.length 0 [] (by omega) (by simp) List.Pairwise.nil (by simp)
 simpa using this
def unlike (b : List S31) (x : S31) : Bool := !((getM b x.f0).2 && decide ((getM b x.f0).1.toList = x.f1.toList))
def alone (a : List S31) (x : S31) : Bool := !(getM a x.f0).2
def diffA (b l : List S31) : List ByteArray := (l.filter (unlike b)).map (·.f0)
def diffB (a l : List S31) : List ByteArray := (l.filter (alone a)).map (·.f0)
def diffM (a b : List S31) : List ByteArray := sortB (diffA b a ++ diffB a b)
theorem diffA_length (b l : List S31) : (diffA b l).length ≤ l.length := by
 unfold diffA
 rw [List.length_map]
 exact List.length_filter_le _ _
theorem diffB_length (a l : List S31) : (diffB a l).length ≤ l.length := by
 unfold diffB
 rw [List.length_map]
 exact List.length_filter_le _ _
theorem diffM_length (a b : List S31) : (diffM a b).length ≤ a.length + b.length := by
 have h1 := sortB_length (diffA b a ++ diffB a b)
 rw [List.length_append] at h1
 have h2 := diffA_length b a
 have h3 := diffB_length a b
 unfold diffM
 omega
theorem diffA_cons (b l : List S31) (x : S31) : diffA b (x :: l) = (if unlike b x then [x.f0] else []) ++ diffA b l := by
 unfold diffA
 by_cases h : unlike b x = true
 ·simp [h]
 ·simp [h]
theorem diffB_cons (a l : List S31) (x : S31) : diffB a (x :: l) = (if alone a x then [x.f0] else []) ++ diffB a l := by
 unfold diffB
 by_cases h : alone a x = true
 ·simp [h]
 ·simp [h]
theorem spec_diff_l1 (a b : List S31) (ha : a.length ≤ 4194304) (hb : b.length ≤ 4194304) (d : Nat) : ∀ (i : Nat) (acc : List ByteArray), i + d = b.length → acc.length + d ≤ 16777216 →
  Ev (fun k => spec_DiffFiles.l1 k a b acc (i : Int)) (sortB (acc ++ diffB a (b.drop i))) := by
 induction d with
 | zero =>
  intro i acc hi hacc
  have h1 : ¬ (i : Int) < (b.length : Int) := by omega
  refine Ev.succ ?_
  rw [List.drop_eq_nil_of_le (by omega), show diffB a [] = [] from rfl, List.append_nil]
  simp only [spec_DiffFiles.l1, h1, if_false]
  exact Ev.bind (spec_sorted acc (by omega)) Ev.some
 | succ d ih =>
  intro i acc hi hacc
  have hlt : i < b.length := by omega
  have h1 : (i : Int) < (b.length : Int) := by omega
  have h2 : (0 : Int) ≤ (i : Int) := by omega
  have h3 := next_i hlt (by omega)
  have hg : rd_T31 b (i : Int) = b[i] := rdD_cast _ hlt
  refine Ev.succ ?_
  rw [drop_get hlt, diffB_cons]
  simp only [spec_DiffFiles.l1, h1, h2, h3, if_true, hg]
  refine Ev.bind (spec_get a _ (by omega)) ?_
  by_cases c : (getM a b[i].f0).2 = true
  ·simp only [c, if_true, alone, Bool.not_true, Bool.false_eq_true, if_false, List.nil_append]
   exact ih (i + 1) acc (by omega) (by omega)
  ·have c' : (getM a b[i].f0).2 = false := by simpa using c
   simp only [c', Bool.false_eq_true, if_false, alone, Bool.not_false, if_true, show acc.length < 8796093022208 by omega]
   rw [← List.append_assoc]
   exact ih (i + 1) _ (by omega) (by rw [List.length_append, List.length_singleton]; omega)
theorem spec_diff_l0 (a b : List S31) (ha : a.length ≤ 4194304) (hb : b.length ≤ 4194304) (d : Nat) : ∀ (i : Nat) (acc : List ByteArray), i + d = a.length → acc.length + d ≤ 4194304 →
  Ev (fun k => spec_DiffFiles.l0 k a b acc (i : Int)) (sortB (acc ++ diffA b (a.drop i) ++ diffB a b)) := by
 induction d with
 | zero =>
  intro i acc hi hacc
  have h1 : ¬ (i : Int) < (a.length : Int) := by omega
  refine Ev.succ ?_
  rw [List.drop_eq_nil_of_le (by omega), show diffA b [] = [] from rfl, List.append_nil]
  simp only [spec_DiffFiles.l0, h1, if_false]
  have := spec_diff_l1 a b ha hb b.length 0 acc (by omega) (by omega)
  simpa using this
 | succ d ih =>
  intro i acc hi hacc
  have hlt : i < a.length := by omega
  have h1 : (i : Int) < (a.length : Int) := by omega
  have h2 : (0 : Int) ≤ (i : Int) := by omega
  have h3 := next_i hlt (by omega)
  have hg : rd_T31 a (i : Int) = a[i] := rdD_cast _ hlt
  refine Ev.succ ?_
  rw [drop_get hlt, diffA_cons]
  simp only [spec_DiffFiles.l0, h1, h2, h3, if_true, hg]
  refine Ev.bind (spec_get b _ (by omega)) ?_
  by_cases c : (getM b a[i].f0).2 = true
  ·by_cases e : (getM b a[i].f0).1.toList = a[i].f1.toList
   ·simp only [c, e, if_true, unlike, decide_true, Bool.and_self, Bool.not_true, Bool.false_eq_true, if_false, List.nil_append]
    exact ih (i + 1) acc (by omega) (by omega)
   ·simp only [c, e, if_true, if_false, unlike, decide_false, Bool.and_false, Bool.not_false, show acc.length < 8796093022208 by omega]
    rw [← List.append_assoc]
    exact ih (i + 1) _ (by omega) (by rw [List.length_append, List.length_singleton]; omega)
  ·have c' : (getM b a[i].f0).2 = false := by simpa using c
   simp only [c', Bool.false_eq_true, if_false, unlike, Bool.false_and, Bool.not_false, if_true, show acc.length < 8796093022208 by omega]
   rw [← List.append_assoc]
   exact ih (i + 1) _ (by omega) (by rw [List.length_append, List.length_singleton]; omega)
theorem spec_diff (a b : List S31) (ha : a.length ≤ 4194304) (hb : b.length ≤ 4194304) : Ev (fun k => spec_DiffFiles.f k a b) (diffM a b) := by
 unfold spec_DiffFiles.f diffM
 have := spec_diff_l0 a b ha hb a.length 0 [] (by omega) (by simpa using ha)
 simpa using this
theorem fileAt_neg (a : List S31) (p : ByteArray) : fAt a p 0 < 0 ↔ (getM a p).2 = false := by
 unfold getM
 by_cases h : fAt a p 0 < 0
 ·simp [h]
 ·simp [h]
theorem impl_diff_l1 (a b : List S31) (ha : a.length ≤ 4194304) (hb : b.length ≤ 4194304) (d : Nat) : ∀ (i : Nat) (acc : List ByteArray), i + d = b.length → acc.length + d ≤ 16777216 →
  Ev (fun k => impl_DiffFiles.l1 k a acc b (b.length : Int) (i : Int)) (sortB (acc ++ diffB a (b.drop i))) := by
 induction d with
 | zero =>
  intro i acc hi hacc
  have h1 : ¬ (i : Int) < (b.length : Int) := by omega
  refine Ev.succ ?_
  rw [List.drop_eq_nil_of_le (by omega), show diffB a [] = [] from rfl, List.append_nil]
  simp only [impl_DiffFiles.l1, h1, if_false, impl_sorted acc (by omega), Option.bind_some]
  exact Ev.some
 | succ d ih =>
  intro i acc hi hacc
  have hlt : i < b.length := by omega
  have h1 : (i : Int) < (b.length : Int) := by omega
  have h2 : (0 : Int) ≤ (i : Int) := by omega
  have h3 := next_i hlt (by omega)
  have hg : rd_T31 b (i : Int) = b[i] := rdD_cast _ hlt
  have hf : impl_fileAt.f a b[i].f0 = some (fAt a b[i].f0 0) := rfl
  refine Ev.succ ?_
  rw [drop_get hlt, diffB_cons]
  simp only [impl_DiffFiles.l1, h1, h2, h3, if_true, hg, hf, Option.bind_some, fileAt_neg]
  by_cases c : (getM a b[i].f0).2 = true
  ·simp only [c, Bool.true_eq_false, if_true, alone, Bool.not_true, Bool.false_eq_true, if_false, List.nil_append]
   exact ih (i + 1) acc (by omega) (by omega)
  ·have c' : (getM a b[i].f0).2 = false := by simpa using c
   simp only [c', Bool.false_eq_true, if_false, alone, Bool.not_false, if_true, show acc.length < 8796093022208 by omega]
   rw [← List.append_assoc]
   exact ih (i + 1) _ (by omega) (by rw [List.length_append, List.length_singleton]; omega)
theorem impl_diff_l0 (a b : List S31) (ha : a.length ≤ 4194304) (hb : b.length ≤ 4194304) (d : Nat) : ∀ (i : Nat) (acc : List ByteArray), i + d = a.length → acc.length + d ≤ 4194304 →
  Ev (fun k => impl_DiffFiles.l0 k a b acc a (a.length : Int) (i : Int)) (sortB (acc ++ diffA b (a.drop i) ++ diffB a b)) := by
 induction d with
 | zero =>
  intro i acc hi hacc
  have h1 : ¬ (i : Int) < (a.length : Int) := by omega
  refine Ev.succ ?_
  rw [List.drop_eq_nil_of_le (by omega), show diffA b [] = [] from rfl, List.append_nil]
  simp only [impl_DiffFiles.l0, h1, if_false]
  have := impl_diff_l1 a b ha hb b.length 0 acc (by omega) (by omega)
  simpa using this
 | succ d ih =>
  intro i acc hi hacc
  have hlt : i < a.length := by omega
  have h1 : (i : Int) < (a.length : Int) := by omega
  have h2 : (0 : Int) ≤ (i : Int) := by omega
  have h3 := next_i hlt (by omega)
  have hg : rd_T31 a (i : Int) = a[i] := rdD_cast _ hlt
  refine Ev.succ ?_
  rw [drop_get hlt, diffA_cons]
  simp only [impl_DiffFiles.l0, h1, h2, h3, if_true, hg, impl_get, Option.bind_some]
  by_cases c : (getM b a[i].f0).2 = true
  ·by_cases e : (getM b a[i].f0).1.toList = a[i].f1.toList
   ·simp only [c, e, if_true, unlike, decide_true, Bool.and_self, Bool.not_true, Bool.false_eq_true, if_false, List.nil_append]
    exact ih (i + 1) acc (by omega) (by omega)
   ·simp only [c, e, if_true, if_false, unlike, decide_false, Bool.and_false, Bool.not_false, show acc.length < 8796093022208 by omega]
    rw [← List.append_assoc]
    exact ih (i + 1) _ (by omega) (by rw [List.length_append, List.length_singleton]; omega)
  ·have c' : (getM b a[i].f0).2 = false := by simpa using c
   simp only [c', Bool.false_eq_true, if_false, unlike, Bool.false_and, Bool.not_false, if_true, show acc.length < 8796093022208 by omega]
   rw [← List.append_assoc]
   exact ih (i + 1) _ (by omega) (by rw [List.length_append, List.length_singleton]; omega)
theorem impl_diff (a b : List S31) (ha : a.length ≤ 4194304) (hb : b.length ≤ 4194304) : Ev (fun k => impl_DiffFiles.f k a b) (diffM a b) := by
 unfold impl_DiffFiles.f diffM
 have := impl_diff_l0 a b ha hb a.length 0 [] (by omega) (by simpa using ha)
 simpa using this
theorem lawFiles_l (a : List S31) (hl : a.length ≤ 9223372036854775807) (d : Nat) : ∀ i : Nat, i + d = a.length → Ev (fun k => laws_sameFiles.l0 k a a (i : Int)) true := by
 induction d with
 | zero =>
  intro i hi
  refine Ev.succ ?_
  simp only [laws_sameFiles.l0, show ¬ (i : Int) < (a.length : Int) by omega, if_false]
  exact Ev.some
 | succ d ih =>
  intro i hi
  have h3 := next_i (show i < a.length by omega) hl
  refine Ev.succ ?_
  simp only [laws_sameFiles.l0, show (i : Int) < (a.length : Int) by omega, show (0 : Int) ≤ (i : Int) by omega, if_true, h3, beq_self_eq_true, Bool.not_true, Bool.or_false, Bool.false_eq_true, if_false]
  exact ih (i + 1) (by omega)
theorem lawFiles (a : List S31) (hl : a.length ≤ 9223372036854775807) : Ev (fun k => laws_sameFiles.f k a a) true := by
 unfold laws_sameFiles.f
 simp only [if_true]
 refine Ev.succ ?_
 simp only [laws_sameFiles.j0]
 exact lawFiles_l a hl a.length 0 (by omega)
theorem lawAsc_l (a : List ByteArray) (hl : a.length ≤ 9223372036854775807) (ha : a.Pairwise blB) (d : Nat) : ∀ i : Nat, 1 ≤ i → (i + d = a.length ∨ a.length < i ∧ d = 0) → Ev (fun k => laws_ascending.l0 k a (i : Int)) true := by
 induction d with
 | zero =>
  intro i h1 hi
  refine Ev.succ ?_
  simp only [laws_ascending.l0, show ¬ (i : Int) < (a.length : Int) by omega, if_false]
  exact Ev.some
 | succ d ih =>
  intro i h1 hi
  have hlt : i < a.length := by omega
  have h3 := next_i hlt hl
  have hw : wrap64 ((i : Int) - 1) = ((i - 1 : Nat) : Int) := by rw [wrap64_id (by omega) (by omega)]; omega
  have hp : Op.bytesLess (rdOf ByteArray.empty a ((i - 1 : Nat) : Int)).toList (rdOf ByteArray.empty a (i : Int)).toList = true := by
   rw [rdOf_cast _ hlt, rdOf_cast _ (show i - 1 < a.length by omega)]
   exact List.pairwise_iff_getElem.1 ha (i - 1) i (by omega) hlt (by omega)
  refine Ev.succ ?_
  simp only [laws_ascending.l0, show (i : Int) < (a.length : Int) by omega, show (0 : Int) ≤ (i : Int) by omega, if_true, h3, hw, show (0 : Int) ≤ ((i - 1 : Nat) : Int) by omega, show ((i - 1 : Nat) : Int) < (a.length : Int) by omega, hp]
  exact ih (i + 1) (by omega) (by omega)
theorem lawAsc (a : List ByteArray) (hl : a.length ≤ 9223372036854775807) (ha : a.Pairwise blB) : Ev (fun k => laws_ascending.f k a) true := by
 unfold laws_ascending.f
 exact lawAsc_l a hl ha (a.length - 1) 1 (by omega) (by omega)
theorem lawTexts_l (a b : List ByteArray) (hl : a.length ≤ 9223372036854775807) (hab : a.length = b.length) (d : Nat) : ∀ i : Nat, i + d = a.length →
  Ev (fun k => laws_sameTexts.l0 k a b (i : Int)) (decide (a.drop i = b.drop i)) := by
 induction d with
 | zero =>
  intro i hi
  have h1 : ¬ (i : Int) < (a.length : Int) := by omega
  refine Ev.succ ?_
  rw [List.drop_eq_nil_of_le (by omega), List.drop_eq_nil_of_le (by omega)]
  simp only [laws_sameTexts.l0, h1, if_false, decide_true]
  exact Ev.some
 | succ d ih =>
  intro i hi
  have hlt : i < a.length := by omega
  have hlb : i < b.length := by omega
  have h1 : (i : Int) < (a.length : Int) := by omega
  have h1b : (i : Int) < (b.length : Int) := by omega
  have h2 : (0 : Int) ≤ (i : Int) := by omega
  have h3 := next_i hlt hl
  refine Ev.succ ?_
  rw [drop_get hlt, drop_get hlb]
  simp only [laws_sameTexts.l0, h1, h1b, h2, h3, if_true, rdOf_cast _ hlt, rdOf_cast _ hlb, toList_inj]
  by_cases h : a[i] = b[i]
  ·simp only [h, if_true, List.cons.injEq, true_and]
   exact ih (i + 1) (by omega)
  ·simp only [h, if_false, List.cons.injEq, false_and, decide_false]
   exact Ev.some
theorem lawTexts (a b : List ByteArray) (hl : a.length ≤ 9223372036854775807) : Ev (fun k => laws_sameTexts.f k a b) (decide (a = b)) := by
 unfold laws_sameTexts.f
 by_cases h : (a.length : Int) = (b.length : Int)
 ·simp only [h, if_true]
  refine Ev.succ ?_
  simp only [laws_sameTexts.j0]
  exact lawTexts_l a b hl (by omega) a.length 0 (by omega)
 ·simp only [h, if_false]
  refine Ev.cast Ev.some ?_
  rw [eq_comm, decide_eq_false_iff_not]
  exact fun e => h (by rw [e])
end Go.Proofs.YtbaeljcnbkeipaaDoor.Pure
