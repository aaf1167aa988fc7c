/- What the functions come to. -/
import Derived.Test.YtbaeljcnbkeipaaDoorZGBAux
import Derived.Test.YtbaeljcnbkeipaaDoorZGBPGBx1
import Derived.Test.YtbaeljcnbkeipaaDoorZGBPGBx2
import Derived.Lib.SplitLaws
import Derived.Lib.ItoaNum
import Derived.Lib.Join
import Derived.Test.YtbaeljcnbkeipaaDoorZGBPGBx0
import Derived.Lib.CutLaws
import Derived.Test.YtbaeljcnbkeipaaDoorZGBMine
import Derived.Sort.Walk0
import Derived.Lib.SlicesCompact
set_option linter.unusedVariables false
set_option linter.unusedSimpArgs false
namespace Go.Proofs.YtbaeljcnbkeipaaDoor.Pure
open Go.RowKit Go.Proofs.YtbaeljcnbkeipaaDoor.PGB Go.Proofs.YtbaeljcnbkeipaaDoorW.PrintWords Go.Proofs.YtbaeljcnbkeipaaDoorW.PrintLast Go.Proofs.YtbaeljcnbkeipaaDoor.Aux
def Got {α : Type} (g : Nat → Option α) (p : α → Prop) : Prop := ∃ r, Ev g r ∧ p r
theorem Got.bind {α β : Type} {g : Nat → Option α} {f : Nat → α → Option β} {p : α → Prop} {q : β → Prop} (h : Got g p) (h' : ∀ r, p r → Got (fun k => f k r) q) : Got (fun k => (g k).bind (f k)) q := by
 obtain ⟨r, hr, hp⟩ := h
 obtain ⟨s, hs, hq⟩ := h' r hp
 exact ⟨s, Ev.bind hr hs, hq⟩
theorem Got.some {α : Type} {r : α} {p : α → Prop} (h : p r) : Got (fun _ => Option.some r) p := ⟨r, Ev.some, h⟩
theorem Got.succ {α : Type} {g : Nat → Option α} {p : α → Prop} (h : Got (fun k => g (k + 1)) p) : Got g p := by
 obtain ⟨r, hr, hp⟩ := h
 exact ⟨r, Ev.succ hr, hp⟩
theorem Got.const {α : Type} {o : Option α} {p : α → Prop} (h : ∃ r, o = Option.some r ∧ p r) : Got (fun _ => o) p := by
 obtain ⟨r, e, hp⟩ := h
 exact ⟨r, Ev.const e, hp⟩
theorem Got.of {α : Type} {g : Nat → Option α} {r : α} {p : α → Prop} (h : Ev g r) (hp : p r) : Got g p := ⟨r, h, hp⟩
theorem Got.mono {α : Type} {g : Nat → Option α} {p q : α → Prop} (h : Got g p) (hpq : ∀ r, p r → q r) : Got g q := by
 obtain ⟨r, hr, hp⟩ := h
 exact ⟨r, hr, hpq r hp⟩
theorem Got.cond {α : Type} {c : Prop} [Decidable c] {g f : Nat → Option α} {p : α → Prop} (h : c → Got g p) (h' : ¬c → Got f p) : Got (fun k => if c then g k else f k) p := by
 by_cases hc : c
 ·simpa only [hc, if_true] using h hc
 ·simpa only [hc, if_false] using h' hc
def Cur (b : List Int) (i : Int) : Prop := 0 ≤ i ∧ i ≤ (b.length : Int) ∧ b.length ≤ 140737488355328
theorem and255 (x : Int) : 0 ≤ Go.bits .and .i64 x 255 ∧ Go.bits .and .i64 x 255 ≤ 255 := by
 have h : (BitVec.ofInt 64 x &&& BitVec.ofInt 64 255).toNat ≤ 255 := by
  rw [BitVec.toNat_and]
  exact Nat.and_le_right
 have e : Go.bits .and .i64 x 255 = IntKind.wrap .i64 ((BitVec.ofInt 64 x &&& BitVec.ofInt 64 255).toNat : Int) := rfl
 rw [e, IntKind.wrap_i64]
 omega
theorem draw_byte (b : List Int) (i h : Int) (hc : Cur b i) : ∃ r, spec_l1Byte.f b i h = some r ∧ (0 ≤ r.1 ∧ r.1 ≤ 255) ∧ Cur b r.2.1 := by
 obtain ⟨c0, c1, c2⟩ := hc
 unfold spec_l1Byte.f
 by_cases h1 : i < (b.length : Int)
 ·simp only [h1, c0, if_true]
  refine ⟨_, rfl, and255 _, ?_⟩
  show Cur b (wrap64 (i + 1))
  rw [wrap64_id (by omega) (by omega)]
  exact ⟨by omega, by omega, c2⟩
 ·simp only [h1, if_false]
  exact ⟨_, rfl, and255 _, c0, c1, c2⟩
theorem draw_below (b : List Int) (i h n : Int) (hn : 0 < n) (hn' : n ≤ 9223372036854775807) (hc : Cur b i) : Got (fun k => spec_l1Below.f k b i h n) fun r => (0 ≤ r.1 ∧ r.1 < n) ∧ Cur b r.2.1 := by
 have tm : ∀ x : Int, 0 ≤ x → 0 ≤ Int.tmod x n ∧ Int.tmod x n < n := by
  intro x hx
  rw [Int.tmod_eq_emod_of_nonneg hx]
  exact ⟨Int.emod_nonneg _ (by omega), Int.emod_lt_of_pos _ hn⟩
 unfold spec_l1Below.f
 simp only [show ¬ n ≤ 0 by omega, if_false]
 refine Got.succ ?_
 simp only [spec_l1Below.j0, show ¬ n = 0 by omega, if_false]
 refine Got.cond (fun _ => ?_) (fun _ => ?_)
 ·refine Got.bind (Got.const (draw_byte b i h hc)) fun r hr => Got.some ?_
  exact ⟨tm _ hr.1.1, hr.2⟩
 ·refine Got.bind (Got.const (draw_byte b i h hc)) fun r hr => ?_
  refine Got.bind (Got.const (draw_byte b _ _ hr.2)) fun r2 hr2 => ?_
  refine Got.bind (Got.const (draw_byte b _ _ hr2.2)) fun r3 hr3 => Got.some ?_
  obtain ⟨a1, a2⟩ := hr.1
  obtain ⟨b1, b2⟩ := hr2.1
  obtain ⟨c1, c2⟩ := hr3.1
  refine ⟨tm _ ?_, hr3.2⟩
  rw [wrap64_id (i := r.1 * 65536) (by omega) (by omega), wrap64_id (i := r2.1 * 256) (by omega) (by omega), wrap64_id (i := r.1 * 65536 + r2.1 * 256) (by omega) (by omega), wrap64_id (by omega) (by omega)]
  omega
theorem draw_once (b : List Int) (i h n : Int) (hn : 0 < n) (hn' : n ≤ 9223372036854775807) (hc : Cur b i) : Got (fun k => spec_l1Once.f k b i h n) fun r => Cur b r.2.1 := by
 unfold spec_l1Once.f
 exact Got.bind (draw_below b i h n hn hn' hc) fun r hr => Got.some hr.2
theorem draw_str (b : List Int) (i h : Int) (l : List ByteArray) (hl : 0 < l.length) (hl' : l.length ≤ 1000000) (hc : Cur b i) : Got (fun k => spec_l1Str.f k b i h l) fun r => r.1 ∈ l ∧ Cur b r.2.1 := by
 unfold spec_l1Str.f
 refine Got.bind (draw_below b i h _ (by omega) (by omega) hc) fun r hr => ?_
 obtain ⟨⟨h0, h1⟩, h2⟩ := hr
 simp only [h0, h1, if_true]
 refine Got.some ⟨?_, h2⟩
 obtain ⟨j, hj⟩ := Int.eq_ofNat_of_zero_le h0
 rw [hj]
 have hlt : j < l.length := by omega
 show rdOf ByteArray.empty l (j : Int) ∈ l
 rw [rdOf_cast _ hlt]
 exact List.getElem_mem hlt
theorem draw_int (b : List Int) (i h : Int) (l : List Int) (hl : 0 < l.length) (hl' : l.length ≤ 1000000) (hc : Cur b i) : Got (fun k => spec_l1Int.f k b i h l) fun r => r.1 ∈ l ∧ Cur b r.2.1 := by
 unfold spec_l1Int.f
 refine Got.bind (draw_below b i h _ (by omega) (by omega) hc) fun r hr => ?_
 obtain ⟨⟨h0, h1⟩, h2⟩ := hr
 simp only [h0, h1, if_true]
 refine Got.some ⟨?_, h2⟩
 obtain ⟨j, hj⟩ := Int.eq_ofNat_of_zero_le h0
 rw [hj]
 have hlt : j < l.length := by omega
 show rd l (j : Int) ∈ l
 rw [rd_cast hlt]
 exact List.getElem_mem hlt
theorem draw_new_l (l : List Int) (hl : l.length ≤ 1000000000) (d : Nat) : ∀ (j : Nat) (x : Int), j + d = l.length → Got (fun k => spec_l1New.l0 k l x (j : Int)) fun r => r.1 = l ∧ r.2.1 = 0 := by
 induction d with
 | zero =>
  intro j x hj
  refine Got.succ ?_
  simp only [spec_l1New.l0, show ¬ (j : Int) < (l.length : Int) by omega, if_false]
  exact Got.some ⟨rfl, rfl⟩
 | succ d ih =>
  intro j x hj
  refine Got.succ ?_
  simp only [spec_l1New.l0, show (j : Int) < (l.length : Int) by omega, if_true, show (0 : Int) ≤ (j : Int) by omega, next_i (show j < l.length by omega) (by omega)]
  exact Got.cond (fun _ => ih (j + 1) _ (by omega)) (fun _ => Got.some ⟨rfl, rfl⟩)
theorem draw_new (l : List Int) (hl : l.length ≤ 1000000000) : Got (fun k => spec_l1New.f k l) fun r => r.1 = l ∧ r.2.1 = 0 := draw_new_l l hl l.length 0 _ (by omega)
theorem cur_new {l : List Int} (hl : l.length ≤ 1000000000) {r : List Int × Int × Int} (h : r.1 = l ∧ r.2.1 = 0) : Cur r.1 r.2.1 := by
 obtain ⟨h1, h2⟩ := h
 rw [h1, h2]
 exact ⟨by omega, by omega, by omega⟩
end Go.Proofs.YtbaeljcnbkeipaaDoor.Pure
namespace Go.Proofs.YtbaeljcnbkeipaaDoor.Pure
open Go.RowKit Go.Proofs.YtbaeljcnbkeipaaDoor.Aux Go.Proofs.YtbaeljcnbkeipaaDoorW.PrintWords
theorem Ev.no {α : Type} {c : Prop} [Decidable c] {g f : Nat → Option α} {r : α} (hc : ¬ c) (h : Ev f r) : Ev (fun k => if c then g k else f k) r := by
 simpa only [hc, if_false] using h
def glue (u : List UInt8) : List (List UInt8) → List (List UInt8)
 | [] => [u]
 | p :: ps => (u ++ p) :: ps
theorem split_miss {s sep : List UInt8} (h : Lib.index s sep = -1) : Lib.split s sep = [s] := by
 unfold Lib.split
 rw [Lib.count_miss h]
 rfl
theorem split_hit {s sep : List UInt8} {i : Nat} (h1 : sep ≠ []) (h : Lib.index s sep = i) : Lib.split s sep = s.take i :: Lib.split (s.drop (i + sep.length)) sep := by
 unfold Lib.split
 rw [Lib.count_hit h1 h, Nat.add_comm]
 have hm : ¬ (Lib.index s sep == -1) = true := fun e => by have := beq_iff_eq.1 e; omega
 have e : (Lib.index s sep).toNat = i := by omega
 rw [Lib.splitK, if_neg hm, e]
 rfl
theorem split_ne (s sep : List UInt8) : Lib.split s sep ≠ [] := by
 unfold Lib.split
 cases Lib.count s sep with
 | zero => simp [Lib.splitK]
 | succ k =>
  unfold Lib.splitK
  split <;> simp
theorem split_nil {sep : List UInt8} (h1 : sep ≠ []) : Lib.split [] sep = [[]] := by
 refine split_miss ?_
 cases sep with
 | nil => exact absurd rfl h1
 | cons a b => rfl
theorem split_at {s sep : List UInt8} (h1 : sep ≠ []) (h : sep.isPrefixOf s = true) : Lib.split s sep = [] :: Lib.split (s.drop sep.length) sep := by
 have hi : Lib.index s sep = ((0 : Nat) : Int) := by
  cases s with
  | nil =>
   cases sep with
   | nil => exact absurd rfl h1
   | cons a b => simp at h
  | cons b l => unfold Lib.index; rw [if_pos h]; rfl
 rw [split_hit h1 hi]
 simp
theorem split_by {b : UInt8} {l sep : List UInt8} (h1 : sep ≠ []) (h : sep.isPrefixOf (b :: l) = false) : Lib.split (b :: l) sep = glue [b] (Lib.split l sep) := by
 have hx : Lib.index (b :: l) sep = if Lib.index l sep == -1 then -1 else Lib.index l sep + 1 := by rw [Lib.index, h]; simp
 by_cases hm : Lib.index l sep = -1
 ·rw [split_miss hm, split_miss (by rw [hx, if_pos (beq_iff_eq.2 hm)])]
  rfl
 ·have hge := Lib.index_ge l sep
  obtain ⟨j, hj⟩ : ∃ j : Nat, Lib.index l sep = j := ⟨(Lib.index l sep).toNat, by omega⟩
  have hx' : Lib.index (b :: l) sep = ((j + 1 : Nat) : Int) := by rw [hx, if_neg (fun e => hm (beq_iff_eq.1 e)), hj]; omega
  rw [split_hit h1 hj, split_hit h1 hx']
  simp [glue, Nat.add_right_comm]
theorem split_one_at (c : UInt8) (l : List UInt8) : Lib.split (c :: l) [c] = [] :: Lib.split l [c] := by
 rw [split_at (sep := [c]) (by simp) (by unfold List.isPrefixOf; simp)]
 rfl
theorem split_one_by {b c : UInt8} (l : List UInt8) (h : ¬ b = c) : Lib.split (b :: l) [c] = glue [b] (Lib.split l [c]) :=
 split_by (by simp) (by
  unfold List.isPrefixOf
  rw [show (c == b) = false from by simpa using fun e => h e.symm]
  rfl)
def ofL (l : List UInt8) : ByteArray := ⟨l.toArray⟩
theorem ofL_data (s : ByteArray) : ofL s.data.toList = s := by cases s; simp [ofL]
theorem data_ofL (l : List UInt8) : (ofL l).data.toList = l := by simp [ofL]
theorem ofL_size (l : List UInt8) : (ofL l).size = l.length := by simp [ofL, ByteArray.size]
def piecesB (s sep : ByteArray) : List ByteArray := (Lib.split s.data.toList sep.data.toList).map ofL
theorem splitB_pieces (s sep : ByteArray) : Lib.splitB sep 0 (Lib.countB s sep) s = piecesB s sep := by
 have h := Lib.splitB_data sep 0 (Lib.countB s sep) s
 unfold piecesB Lib.split
 rw [← h, List.map_map]
 conv => lhs; rw [← List.map_id (Lib.splitB sep 0 (Lib.countB s sep) s)]
 exact List.map_congr_left (fun x _ => by simp [ofL_data])
theorem data_drop {s : ByteArray} {i : Nat} (h : i < s.size) : ∃ b : UInt8, s.data.toList.drop i = b :: s.data.toList.drop (i + 1) ∧ bt s (i : Int) = (b.toNat : Int) ∧ s.data.toList[i]? = some b := by
 have hl : i < s.data.toList.length := by simpa using h
 refine ⟨s.data.toList[i], List.drop_eq_getElem_cons hl, ?_, List.getElem?_eq_getElem hl⟩
 rw [bt_bs]
 unfold bs
 rw [List.getD_eq_getElem?_getD, Int.toNat_natCast, List.getElem?_map, List.getElem?_eq_getElem hl]
 rfl
theorem pieces_length {s sep : ByteArray} (h1 : 1 ≤ sep.size) : (piecesB s sep).length ≤ s.size + 1 := by
 rw [← splitB_pieces]
 have := Lib.splitB_length_le sep 0 (Lib.countB s sep) s
 have := Lib.countB_le sep h1 s.size s (Nat.le_refl _)
 omega
end Go.Proofs.YtbaeljcnbkeipaaDoor.Pure
namespace Go.Proofs.YtbaeljcnbkeipaaDoor.Pure
open Go.RowKit Go.Proofs.YtbaeljcnbkeipaaDoor.PGB Go.Proofs.YtbaeljcnbkeipaaDoorW.PrintWords Go.Proofs.YtbaeljcnbkeipaaDoorW.PrintLast Go.Proofs.YtbaeljcnbkeipaaDoor.Aux
def numB (x : Int) : ByteArray := ofL (Lib.decDigits x.toNat)
theorem dig_one (x : Nat) : strOfNums [wrap64 (48 + Int.tmod (x : Int) 10) % 256] = ofL [UInt8.ofNat (48 + x % 10)] := by
 have h : wrap64 (48 + Int.tmod (x : Int) 10) % 256 = ((48 + x % 10 : Nat) : Int) := by
  rw [Int.tmod_eq_emod_of_nonneg (by omega), wrap64_id (by omega) (by omega)]
  omega
 rw [h]
 rfl
theorem ofL_append (a b : List UInt8) : ofL a ++ ofL b = ofL (a ++ b) := by
 rw [← ofL_data (ofL a ++ ofL b)]
 simp [ofL]
theorem spec_num_l (m : Nat) : ∀ (x : Nat) (rest : List UInt8), x < 10 ^ m → x ≤ 9223372036854775807 → m + rest.length ≤ 100 →
  Ev (fun k => spec_NumText.l0 k (x : Int) (ofL (UInt8.ofNat (48 + x % 10) :: rest))) (ofL (Lib.decDigits x ++ rest)) := by
 induction m with
 | zero =>
  intro x rest hx _ hr
  obtain rfl : x = 0 := by simp at hx; exact hx
  refine Ev.succ ?_
  simp only [spec_NumText.l0, show ¬ ((0 : Nat) : Int) > 9 by omega, if_false]
  refine Ev.cast Ev.some ?_
  rw [Lib.decDigits, dif_pos (by omega)]
  rfl
 | succ m ih =>
  intro x rest hx hx2 hr
  by_cases h9 : x < 10
  ·refine Ev.succ ?_
   simp only [spec_NumText.l0, show ¬ (x : Int) > 9 by omega, if_false]
   refine Ev.cast Ev.some ?_
   rw [Lib.decDigits, dif_pos h9, Nat.mod_eq_of_lt h9]
   rfl
  ·have hd : wrap64 (Int.tdiv (x : Int) 10) = ((x / 10 : Nat) : Int) := by
    rw [Int.tdiv_eq_ediv_of_nonneg (by omega), wrap64_id (by omega) (by omega)]
    omega
   have hw : ∀ (y : Nat), (strOfNums [wrap64 (48 + Int.tmod (y : Int) 10) % 256]) = ofL [UInt8.ofNat (48 + y % 10)] := dig_one
   have := ih (x / 10) (UInt8.ofNat (48 + x % 10) :: rest) (by rw [Nat.pow_succ] at hx; omega) (by omega) (by simp only [List.length_cons]; omega)
   refine Ev.succ ?_
   simp only [spec_NumText.l0, show (x : Int) > 9 by omega, if_true, Option.bind_some, hd, hw, ofL_append, ofL_size, List.length_cons, List.length_nil, show 0 + 1 + (rest.length + 1) ≤ 9223372036854775807 by omega]
   refine Ev.cast this ?_
   rw [show Lib.decDigits x = Lib.decDigits (x / 10) ++ [UInt8.ofNat (48 + x % 10)] from by rw [Lib.decDigits, dif_neg h9]]
   simp
theorem spec_num (x : Int) (h : x ≤ 9223372036854775807) : Ev (fun k => spec_NumText.f k x) (numB x) := by
 unfold spec_NumText.f numB
 by_cases h0 : x < 0
 ·simp only [h0, if_true]
  refine Ev.succ ?_
  simp only [spec_NumText.j0]
  have := spec_num_l 1 0 [] (by omega) (by omega) (by simp)
  rw [show x.toNat = 0 by omega]
  have hd := dig_one 0
  rw [show ((0 : Nat) : Int) = 0 from rfl] at hd this
  rw [hd]
  simpa using this
 ·simp only [h0, if_false]
  obtain ⟨n, rfl⟩ : ∃ n : Nat, x = n := ⟨x.toNat, by omega⟩
  refine Ev.succ ?_
  simp only [spec_NumText.j0]
  have := spec_num_l 19 n [] (by omega) (by omega) (by simp)
  rw [dig_one n]
  simpa using this
theorem impl_num (x : Int) (h : x ≤ 9223372036854775807) : impl_NumText.f x = some (numB x) := by
 unfold impl_NumText.f strconv_Itoa.f
 have hm : mx x 0 = (x.toNat : Int) := by unfold mx; split <;> omega
 rw [hm, if_pos ⟨by omega, by omega⟩]
 simp only [Option.bind_some, numB, Lib.itoa, show ¬ ((x.toNat : Nat) : Int) < 0 by omega, if_false, Int.toNat_natCast]
 rfl
def inB (x a b : Int) : Bool := decide (a ≤ x) && decide (x ≤ b)
def digitB (x : Int) : Bool := inB x 48 57
theorem in_f (a b c : Int) : spec_l1In.f a b c = some (inB a b c) := by
 unfold spec_l1In.f inB
 by_cases h : b ≤ a <;> simp [h]
theorem inRange_f (a b c : Int) : impl_inRange.f a b c = some (inB a b c) := by
 unfold impl_inRange.f inB
 by_cases h : b ≤ a <;> simp [h]
theorem digit_spec {x : Int} (h : 0 ≤ x ∧ x ≤ 255) : spec_l1Digit.f x = some (digitB x) := by
 unfold spec_l1Digit.f
 rw [wrap64_id (by omega) (by omega), in_f]
 rfl
theorem digit_impl (x : Int) : impl_isFigure.f x = some (digitB x) := by
 unfold impl_isFigure.f digitB inB
 by_cases h : 48 ≤ x <;> simp [h]
def valL (l : List UInt8) : Nat := l.foldl (fun a b => a * 10 + (b.toNat - 48)) 0
theorem valL_snoc (l : List UInt8) (b : UInt8) : valL (l ++ [b]) = valL l * 10 + (b.toNat - 48) := by
 unfold valL
 rw [List.foldl_append]
 rfl
def digL (b : UInt8) : Bool := digitB (b.toNat : Int)
theorem digL_iff (b : UInt8) : digL b = true ↔ 48 ≤ b.toNat ∧ b.toNat ≤ 57 := by
 unfold digL digitB inB
 simp
 omega
theorem valL_lt : ∀ (n : Nat) (l : List UInt8), l.length = n → (∀ b ∈ l, digL b = true) → valL l < 10 ^ n
 | 0, l, hl, _ => by
  obtain rfl := List.length_eq_zero_iff.1 hl
  decide
 | n + 1, l, hl, hd => by
  obtain ⟨u, b, rfl⟩ : ∃ u b, l = u ++ [b] := ⟨l.dropLast, l.getLast (by intro e; simp [e] at hl), (List.dropLast_concat_getLast _).symm⟩
  have hb := (digL_iff b).1 (hd b (by simp))
  have := valL_lt n u (by simpa using hl) (fun c hc => hd c (by simp [hc]))
  rw [valL_snoc, Nat.pow_succ]
  omega
theorem decDigits_head : ∀ (n u : Nat), u ≤ n → 1 ≤ u → ∃ h t, Lib.decDigits u = h :: t ∧ h ≠ 48
 | 0, u, h, h1 => by omega
 | n + 1, u, h, h1 => by
  by_cases h9 : u < 10
  ·refine ⟨UInt8.ofNat (48 + u), [], by rw [Lib.decDigits, dif_pos h9], fun e => ?_⟩
   have := congrArg UInt8.toNat e
   simp at this
   omega
  ·obtain ⟨a, t, e, ha⟩ := decDigits_head n (u / 10) (by omega) (by omega)
   exact ⟨a, t ++ [UInt8.ofNat (48 + u % 10)], by rw [Lib.decDigits, dif_neg h9, e]; rfl, ha⟩
def noLead : List UInt8 → Bool
 | [] => false
 | [_] => true
 | b :: _ :: _ => b != 48
theorem decDigits_val : ∀ (n : Nat) (l : List UInt8), l.length = n → (∀ b ∈ l, digL b = true) → noLead l = true → Lib.decDigits (valL l) = l
 | 0, l, hl, _, hn => by
  obtain rfl := List.length_eq_zero_iff.1 hl
  cases hn
 | n + 1, l, hl, hd, hn => by
  obtain ⟨u, b, rfl⟩ : ∃ u b, l = u ++ [b] := ⟨l.dropLast, l.getLast (by intro e; simp [e] at hl), (List.dropLast_concat_getLast _).symm⟩
  have hb := (digL_iff b).1 (hd b (by simp))
  rw [valL_snoc]
  cases u with
  | nil =>
   rw [show valL [] = 0 from rfl, Lib.decDigits, dif_pos (by omega)]
   have : UInt8.ofNat (48 + (0 * 10 + (b.toNat - 48))) = b := by
    apply UInt8.toNat_inj.1
    simp
    omega
   rw [this]
   rfl
  | cons a r =>
   have ha : a ≠ 48 := by
    cases r with
    | nil => simpa [noLead] using hn
    | cons c r => simpa [noLead] using hn
   have had := (digL_iff a).1 (hd a (by simp))
   have hnl : noLead (a :: r) = true := by
    cases r with
    | nil => rfl
    | cons c r => simpa [noLead] using ha
   have ih := decDigits_val n (a :: r) (by simpa using hl) (fun c hc => hd c (by simp at hc ⊢; rcases hc with h | h <;> simp [h])) hnl
   have hpos : 1 ≤ valL (a :: r) := by
    apply Decidable.byContradiction
    intro hz
    have h0 : valL (a :: r) = 0 := by omega
    rw [h0, Lib.decDigits, dif_pos (by omega)] at ih
    have : (48 : UInt8) = a := (List.cons.inj ih).1
    exact ha this.symm
   rw [Lib.decDigits, dif_neg (by omega)]
   rw [show (valL (a :: r) * 10 + (b.toNat - 48)) / 10 = valL (a :: r) by omega, show (valL (a :: r) * 10 + (b.toNat - 48)) % 10 = b.toNat - 48 by omega, ih]
   have : UInt8.ofNat (48 + (b.toNat - 48)) = b := by
    apply UInt8.toNat_inj.1
    simp
    omega
   rw [this]
theorem noLead_of_dec {l : List UInt8} (h : Lib.decDigits (valL l) = l) : noLead l = true := by
 match l, h with
 | [], h =>
  rw [show valL [] = 0 from rfl, Lib.decDigits, dif_pos (by omega)] at h
  cases h
 | [_], _ => rfl
 | a :: b :: r, h =>
  by_cases h0 : valL (a :: b :: r) = 0
  ·rw [h0, Lib.decDigits, dif_pos (by omega)] at h
   cases h
  ·obtain ⟨c, t, e, hc⟩ := decDigits_head _ _ (Nat.le_refl _) (by omega : 1 ≤ valL (a :: b :: r))
   rw [h] at e
   obtain rfl : a = c := (List.cons.inj e).1
   simpa [noLead] using hc
def valB (s : ByteArray) : Int := (valL s.data.toList : Int)
def parseOk (s : ByteArray) : Bool := inB s.size 1 7 && (s.data.toList.all digL && noLead s.data.toList)
def parseM (s : ByteArray) (most : Int) : Int × Bool := if parseOk s = true ∧ valB s ≤ most then (valB s, true) else (0, false)
theorem take_next {s : ByteArray} {i : Nat} {b : UInt8} (hg : s.data.toList[i]? = some b) : s.data.toList.take (i + 1) = s.data.toList.take i ++ [b] := by
 rw [List.take_add_one, hg]
 rfl
theorem all_not {s : ByteArray} {i : Nat} {b : UInt8} (hg : s.data.toList[i]? = some b) (hb : digL b = false) : s.data.toList.all digL = false := by
 rw [List.all_eq_false]
 exact ⟨b, List.mem_of_getElem? hg, by simp [hb]⟩
theorem step_val {s : ByteArray} {i : Nat} {b : UInt8} (hg : s.data.toList[i]? = some b) (hb : digL b = true) (hd : ∀ c ∈ s.data.toList.take i, digL c = true) (hi : i < 8) (hlt : i < s.size) :
  wrap64 (wrap64 ((valL (s.data.toList.take i) : Int) * 10) + (((b.toNat : Int) - 48) % 256)) = (valL (s.data.toList.take (i + 1)) : Int) ∧ ∀ c ∈ s.data.toList.take (i + 1), digL c = true := by
 have hb' := (digL_iff b).1 hb
 have hl : (s.data.toList.take i).length = i := by rw [List.length_take]; simp; omega
 have hv := valL_lt i _ hl hd
 have hp : 10 ^ i ≤ 10 ^ 7 := Nat.pow_le_pow_right (by omega) (by omega)
 have hp7 : 10 ^ 7 = 10000000 := by decide
 rw [take_next hg, valL_snoc]
 refine ⟨?_, fun c hc => ?_⟩
 ·rw [wrap64_id (i := (valL (s.data.toList.take i) : Int) * 10) (by omega) (by omega), wrap64_id (by omega) (by omega)]
  omega
 ·rcases List.mem_append.1 hc with h | h
  ·exact hd c h
  ·rw [List.mem_singleton.1 h]; exact hb
theorem noLead_bytes {s : ByteArray} (h1 : 1 ≤ s.size) : noLead s.data.toList = (decide (¬ (s.size : Int) > 1) || decide (¬ bt s 0 = 48)) := by
 obtain ⟨b, hb, hbt, _⟩ := data_drop (s := s) (i := 0) (by omega)
 rw [List.drop_zero] at hb
 have hl : s.data.toList.length = s.size := by simp
 rw [show ((0 : Nat) : Int) = 0 from rfl] at hbt
 rw [hbt]
 cases hr : s.data.toList.drop 1 with
 | nil =>
  rw [hb, hr] at hl ⊢
  simp only [List.length_cons, List.length_nil] at hl
  simp [noLead, show ¬ (s.size : Int) > 1 by omega]
 | cons c r =>
  rw [hb, hr] at hl ⊢
  simp only [List.length_cons] at hl
  simp only [noLead, show (s.size : Int) > 1 by omega, not_true, decide_false, Bool.false_or]
  rw [Bool.eq_iff_iff]
  simp only [bne_iff_ne, ne_eq, decide_eq_true_eq]
  refine ⟨fun h e => h (UInt8.toNat_inj.1 (by simp; omega)), fun h e => h (by rw [e]; rfl)⟩
theorem spec_parse_big (s : ByteArray) (most : Int) (hs : 7 < s.size) (hs2 : s.size ≤ 9223372036854775807) (d : Nat) : ∀ (i : Nat) (n : Int), i + d = 8 → Ev (fun k => spec_ParseNum.l0 k s most n (i : Int)) (0, false) := by
 have hin : inB (s.size : Int) 1 7 = false := by unfold inB; simp; omega
 induction d with
 | zero =>
  intro i n hi
  obtain rfl : i = 8 := by omega
  refine Ev.succ ?_
  by_cases h : ((8 : Nat) : Int) < (s.size : Int)
  ·simp only [spec_ParseNum.l0, h, if_true, show decide (((8 : Nat) : Int) < 8) = false from rfl]
   refine Ev.succ ?_
   simp only [spec_ParseNum.j1, Bool.false_eq_true, if_false, in_f, hin, Option.bind_some]
   exact Ev.some
  ·simp only [spec_ParseNum.l0, h, if_false]
   refine Ev.succ ?_
   simp only [spec_ParseNum.j1, Bool.false_eq_true, if_false, in_f, hin, Option.bind_some]
   exact Ev.some
 | succ d ih =>
  intro i n hi
  have h1 : (i : Int) < (s.size : Int) := by omega
  have h2 : (0 : Int) ≤ (i : Int) := by omega
  have h3 := next_i (show i < s.size by omega) hs2
  refine Ev.succ ?_
  simp only [spec_ParseNum.l0, h1, if_true, show decide ((i : Int) < 8) = true by simp; omega]
  refine Ev.succ ?_
  simp only [spec_ParseNum.j1, if_true, h1, h2, h3, digit_spec (bt_range s i), Option.bind_some]
  cases hp : digitB (bt s (i : Int)) with
  | true => simpa using ih (i + 1) _ (by omega)
  | false => simpa using Ev.some
theorem spec_parse_l (s : ByteArray) (most : Int) (hs : s.size ≤ 7) (d : Nat) : ∀ (i : Nat), i + d = s.size → (∀ c ∈ s.data.toList.take i, digL c = true) → Ev (fun k => spec_ParseNum.l0 k s most (valL (s.data.toList.take i) : Int) (i : Int)) (parseM s most) := by
 induction d with
 | zero =>
  intro i hi hd
  obtain rfl : i = s.size := by omega
  have ht : s.data.toList.take s.size = s.data.toList := List.take_of_length_le (by simp)
  rw [ht] at hd ⊢
  have hall : s.data.toList.all digL = true := List.all_eq_true.2 hd
  refine Ev.succ ?_
  simp only [spec_ParseNum.l0, show ¬ (s.size : Int) < (s.size : Int) by omega, if_false]
  refine Ev.succ ?_
  simp only [spec_ParseNum.j1, Bool.false_eq_true, if_false, in_f, Option.bind_some]
  unfold parseM parseOk
  rw [hall, Bool.true_and]
  cases hb : inB (s.size : Int) 1 7 with
  | false => simpa using Ev.some
  | true =>
   have h1 : 1 ≤ s.size := by unfold inB at hb; simp at hb; omega
   rw [noLead_bytes h1]
   simp only [if_true, Bool.true_and]
   by_cases hg : (s.size : Int) > 1
   ·simp only [hg, if_true, show (0 : Int) < (s.size : Int) by omega, not_true, decide_false, Bool.false_or]
    by_cases hz : bt s 0 = 48
    ·simp only [hz, if_true, not_true, decide_false]
     simpa using Ev.some
    ·simp only [hz, if_false, not_false_eq_true, decide_true, true_and]
     by_cases hm : (valL s.data.toList : Int) > most
     ·simp only [hm, if_true]
      rw [if_neg (by unfold valB; omega)]
      exact Ev.some
     ·simp only [hm, if_false]
      rw [if_pos (by unfold valB; omega)]
      exact Ev.some
   ·simp only [hg, if_false, not_false_eq_true, decide_true, Bool.true_or, true_and]
    by_cases hm : (valL s.data.toList : Int) > most
    ·simp only [hm, if_true]
     rw [if_neg (by unfold valB; omega)]
     exact Ev.some
    ·simp only [hm, if_false]
     rw [if_pos (by unfold valB; omega)]
     exact Ev.some
 | succ d ih =>
  intro i hi hd
  have hlt : i < s.size := by omega
  have h1 : (i : Int) < (s.size : Int) := by omega
  have h2 : (0 : Int) ≤ (i : Int) := by omega
  have h3 := next_i hlt (by omega)
  obtain ⟨b, _, hbt, hg⟩ := data_drop hlt
  refine Ev.succ ?_
  simp only [spec_ParseNum.l0, h1, if_true, show decide ((i : Int) < 8) = true by simp; omega]
  refine Ev.succ ?_
  simp only [spec_ParseNum.j1, if_true, h1, h2, h3, digit_spec (bt_range s i), Option.bind_some]
  rw [hbt]
  show Ev (fun k => if digL b = true then _ else _) _
  cases hp : digL b with
  | true =>
   have hst := step_val hg hp hd (by omega) hlt
   simp only [if_true, hst.1]
   exact ih (i + 1) (by omega) hst.2
  | false =>
   simp only [Bool.false_eq_true, if_false]
   unfold parseM parseOk
   rw [all_not hg hp]
   simpa using Ev.some
theorem spec_parse (s : ByteArray) (most : Int) (hs : s.size ≤ 9223372036854775807) : Ev (fun k => spec_ParseNum.f k s most) (parseM s most) := by
 unfold spec_ParseNum.f
 by_cases h7 : s.size ≤ 7
 ·exact spec_parse_l s most h7 s.size 0 (by omega) (by simp)
 ·have := spec_parse_big s most (by omega) hs 8 0 0 (by omega)
  have hin : inB (s.size : Int) 1 7 = false := by unfold inB; simp; omega
  unfold parseM parseOk
  rw [hin]
  simpa using this
theorem impl_parse_l (s : ByteArray) (most : Int) (hs1 : 1 ≤ s.size) (hs : s.size ≤ 7) (d : Nat) : ∀ (i : Nat), i + d = s.size → (∀ c ∈ s.data.toList.take i, digL c = true) → Ev (fun k => impl_ParseNum.l0 k s most (valL (s.data.toList.take i) : Int) (i : Int)) (parseM s most) := by
 have hin : inB (s.size : Int) 1 7 = true := by unfold inB; simp; omega
 induction d with
 | zero =>
  intro i hi hd
  obtain rfl : i = s.size := by omega
  have ht : s.data.toList.take s.size = s.data.toList := List.take_of_length_le (by simp)
  rw [ht] at hd ⊢
  have hall : s.data.toList.all digL = true := List.all_eq_true.2 hd
  have hv := valL_lt s.size s.data.toList (by simp) hd
  have hp : 10 ^ s.size ≤ 10 ^ 7 := Nat.pow_le_pow_right (by omega) (by omega)
  have hp7 : 10 ^ 7 = 10000000 := by decide
  refine Ev.succ ?_
  simp only [impl_ParseNum.l0, show ¬ (s.size : Int) < (s.size : Int) by omega, if_false]
  simp only [impl_num (valL s.data.toList : Int) (by omega), Option.bind_some, toList_data]
  unfold numB parseM parseOk
  rw [data_ofL, Int.toNat_natCast, hall, hin]
  by_cases hn : noLead s.data.toList = true
  ·have he := decDigits_val _ _ rfl hd hn
   simp only [he, if_true, hn, Bool.true_and, true_and]
   by_cases hm : (valL s.data.toList : Int) > most
   ·simp only [hm, if_true]
    rw [if_neg (by unfold valB; omega)]
    exact Ev.some
   ·simp only [hm, if_false]
    rw [if_pos (by unfold valB; omega)]
    exact Ev.some
  ·have he : ¬ Lib.decDigits (valL s.data.toList) = s.data.toList := fun e => hn (noLead_of_dec e)
   simp only [he, if_false, hn, Bool.true_and, false_and]
   exact Ev.some
 | succ d ih =>
  intro i hi hd
  have hlt : i < s.size := by omega
  have h1 : (i : Int) < (s.size : Int) := by omega
  have h2 : (0 : Int) ≤ (i : Int) := by omega
  have h3 := next_i hlt (by omega)
  obtain ⟨b, _, hbt, hg⟩ := data_drop hlt
  refine Ev.succ ?_
  simp only [impl_ParseNum.l0, if_true, h1, h2, h3, digit_impl, Option.bind_some]
  rw [hbt]
  show Ev (fun k => if digL b = true then _ else _) _
  cases hp : digL b with
  | true =>
   have hst := step_val hg hp hd (by omega) hlt
   simp only [if_true, hst.1]
   exact ih (i + 1) (by omega) hst.2
  | false =>
   simp only [Bool.false_eq_true, if_false]
   unfold parseM parseOk
   rw [all_not hg hp]
   simpa using Ev.some
theorem impl_parse (s : ByteArray) (most : Int) : Ev (fun k => impl_ParseNum.f k s most) (parseM s most) := by
 unfold impl_ParseNum.f
 simp only [inRange_f, Option.bind_some]
 cases hb : inB (s.size : Int) 1 7 with
 | false =>
  unfold parseM parseOk
  rw [hb]
  simpa using Ev.some
 | true =>
  have hb' := hb
  unfold inB at hb'
  simp at hb'
  simp only [if_true]
  refine Ev.succ ?_
  simp only [impl_ParseNum.j0]
  exact impl_parse_l s most (by omega) (by omega) s.size 0 (by omega) (by simp)
theorem strings_split (s : ByteArray) (c : UInt8) (hs : s.size ≤ 16777216) : strings_Split.f s ⟨#[c]⟩ = some (piecesB s ⟨#[c]⟩) := by
 unfold strings_Split.f
 rw [if_pos ⟨by omega, by show 1 ≤ 1; omega⟩, splitB_pieces]
def dats (l : List ByteArray) : List (List UInt8) := l.map (·.data.toList)
def joinB (l : List ByteArray) (sep : ByteArray) : ByteArray := ofL (Lib.join (dats l) sep.data.toList)
def joinN (l : List ByteArray) (sep : ByteArray) : Nat := sep.size * l.length + Lib.lens (dats l)
theorem lens_szT : ∀ l : List ByteArray, (Lib.lens (dats l) : Int) = szT l
 | [] => rfl
 | x :: r => by
  have := lens_szT r
  simp only [Lib.lens, dats, List.map_cons, List.sum_cons, szT] at this ⊢
  rw [← this]
  simp
theorem joinB_size (l : List ByteArray) (sep : ByteArray) : (joinB l sep).size ≤ joinN l sep := by
 unfold joinB joinN
 rw [ofL_size]
 cases l with
 | nil => simp [dats, Lib.join_nil]
 | cons x r =>
  rw [show dats (x :: r) = x.data.toList :: dats r from rfl, Lib.join_length]
  have h1 : (dats r).length = r.length := by simp [dats]
  have h2 : sep.data.toList.length = sep.size := by simp
  rw [h1, h2, List.length_cons, Nat.mul_succ]
  omega
theorem spec_join_l (x : ByteArray) (r : List ByteArray) (sep : ByteArray) (hb : joinN (x :: r) sep ≤ 140737488355328) (hr : r.length ≤ 140737488355328) (d : Nat) : ∀ j : Nat, j + d = r.length →
  Ev (fun k => spec_Join.l0 k (x :: r) sep (ofL (x.data.toList ++ Lib.joinTail sep.data.toList ((dats r).take j))) ((j + 1 : Nat) : Int)) (joinB (x :: r) sep) := by
 have hdl : (dats r).length = r.length := by simp [dats]
 have hsl : sep.data.toList.length = sep.size := by simp
 have hxl : x.data.toList.length = x.size := by simp
 have hN : joinN (x :: r) sep = sep.size * (r.length + 1) + (x.size + Lib.lens (dats r)) := by
  unfold joinN
  simp [dats, Lib.lens]
 induction d with
 | zero =>
  intro j hj
  have h1 : ¬ ((j + 1 : Nat) : Int) < ((x :: r).length : Int) := by rw [List.length_cons]; omega
  refine Ev.succ ?_
  simp only [spec_Join.l0, h1, if_false]
  refine Ev.cast Ev.some ?_
  rw [List.take_of_length_le (by omega)]
  unfold joinB
  rw [show dats (x :: r) = x.data.toList :: dats r from rfl, Lib.join_cons]
 | succ d ih =>
  intro j hj
  have hlt : j < r.length := by omega
  have h1 : ((j + 1 : Nat) : Int) < ((x :: r).length : Int) := by rw [List.length_cons]; omega
  have h2 : ((j + 1 : Nat) : Int) > 0 := by omega
  have h2' : (0 : Int) ≤ ((j + 1 : Nat) : Int) := by omega
  have h3 : wrap64 (((j + 1 : Nat) : Int) + 1) = ((j + 1 + 1 : Nat) : Int) := by rw [wrap64_id (by omega) (by omega)]; omega
  have hg : rdOf ByteArray.empty (x :: r) ((j + 1 : Nat) : Int) = r[j] := by
   rw [rdOf_cast _ (show j + 1 < (x :: r).length by simpa using hlt)]
   rfl
  have hd : (dats r)[j]? = some r[j].data.toList := by
   unfold dats
   rw [List.getElem?_map, List.getElem?_eq_getElem hlt]
   rfl
  have hts := Lib.joinTail_take_succ sep.data.toList (dats r) j _ hd
  have hle := Lib.joinTail_take_le sep.data.toList (dats r) (j + 1)
  rw [Lib.joinTail_length sep.data.toList (dats r), hts, List.length_append, List.length_append, hsl, hdl] at hle
  have hrl : r[j].data.toList.length = r[j].size := by simp
  have e1 : ofL (x.data.toList ++ Lib.joinTail sep.data.toList ((dats r).take j)) ++ sep = ofL (x.data.toList ++ Lib.joinTail sep.data.toList ((dats r).take j) ++ sep.data.toList) := by
   rw [← ofL_data (ofL _ ++ sep)]; simp [ofL]
  have e2 : ∀ u : List UInt8, ofL u ++ r[j] = ofL (u ++ r[j].data.toList) := fun u => by
   rw [← ofL_data (ofL _ ++ r[j])]; simp [ofL]
  have hmul : sep.size * r.length ≤ sep.size * (r.length + 1) := Nat.mul_le_mul_left _ (by omega)
  refine Ev.succ ?_
  simp only [spec_Join.l0, h1, h2, h2', if_true, hg, h3, e1, e2, ofL_size, List.length_append, hxl, hsl]
  have b1 : x.size + (Lib.joinTail sep.data.toList (List.take j (dats r))).length + sep.size ≤ 9223372036854775807 := by omega
  have b2 : x.size + (Lib.joinTail sep.data.toList (List.take j (dats r))).length + sep.size + r[j].size ≤ 9223372036854775807 := by omega
  simp only [b1, b2, if_true]
  have h := ih (j + 1) (by omega)
  rw [hts] at h
  simpa only [List.append_assoc] using h
theorem spec_join (l : List ByteArray) (sep : ByteArray) (hb : joinN l sep ≤ 140737488355328) (hr : l.length ≤ 140737488355328) : Ev (fun k => spec_Join.f k l sep) (joinB l sep) := by
 unfold spec_Join.f
 cases l with
 | nil =>
  refine Ev.succ ?_
  simp only [spec_Join.l0, List.length_nil, show ¬ ((0 : Int) < ((0 : Nat) : Int)) by omega, if_false]
  exact Ev.some
 | cons x r =>
  have hxs : x.size ≤ 140737488355328 := by
   unfold joinN at hb
   simp [dats, Lib.lens] at hb
   omega
  have hg : rdOf ByteArray.empty (x :: r) 0 = x := rfl
  have he : (⟨#[]⟩ : ByteArray) ++ x = x := by
   rw [← ofL_data ((⟨#[]⟩ : ByteArray) ++ x)]
   conv => rhs; rw [← ofL_data x]
   simp [ofL]
  have h := spec_join_l x r sep hb (by simp at hr; omega) r.length 0 (by omega)
  refine Ev.succ ?_
  simp only [spec_Join.l0, show ((0 : Int) < ((x :: r).length : Int)) by rw [List.length_cons]; omega, show ¬ ((0 : Int) > 0) by omega, if_true, if_false, Int.le_refl, hg, he]
  rw [show wrap64 (0 + 1) = ((0 + 1 : Nat) : Int) from by rw [wrap64_id (by omega) (by omega)]; rfl]
  have hz : (⟨#[]⟩ : ByteArray).size + x.size ≤ 9223372036854775807 := by show 0 + x.size ≤ _; omega
  simp only [hz, if_true]
  simpa [Lib.joinTail, ofL_data] using h
theorem strings_join (l : List ByteArray) (sep : ByteArray) (hb : joinN l sep ≤ 140737488355328) (hr : l.length ≤ 140737488355328) : strings_Join.f l sep = some (joinB l sep) := by
 have h := joinB_size l sep
 unfold joinB at h
 rw [ofL_size] at h
 unfold strings_Join.f
 rw [if_pos ⟨Nat.le_trans h hb, hr⟩]
 rfl
theorem join_two (x y : List UInt8) (r : List (List UInt8)) (sep : List UInt8) : Lib.join (x :: y :: r) sep = x ++ sep ++ Lib.join (y :: r) sep := by
 rw [Lib.join_cons, Lib.join_cons]
 simp [Lib.joinTail, List.append_assoc]
theorem join_glue (u : List UInt8) (sep : List UInt8) : ∀ l : List (List UInt8), Lib.join (glue u l) sep = u ++ Lib.join l sep
 | [] => by simp [glue, Lib.join_one, Lib.join_nil]
 | p :: ps => by rw [glue, Lib.join_cons, Lib.join_cons, List.append_assoc]
theorem join_split (c : UInt8) : ∀ l : List UInt8, Lib.join (Lib.split l [c]) [c] = l
 | [] => by rw [split_nil (by simp), Lib.join_one]
 | b :: l => by
  have ih := join_split c l
  by_cases h : b = c
  ·subst h
   rw [split_one_at]
   cases hs : Lib.split l [b] with
   | nil => exact absurd hs (split_ne _ _)
   | cons y r =>
    rw [hs] at ih
    rw [join_two, ih]
    rfl
  ·rw [split_one_by _ h, join_glue, ih]
   rfl
theorem dats_pieces (s sep : ByteArray) : dats (piecesB s sep) = Lib.split s.data.toList sep.data.toList := by
 unfold dats piecesB
 rw [List.map_map]
 conv => rhs; rw [← List.map_id (Lib.split s.data.toList sep.data.toList)]
 exact List.map_congr_left (fun x _ => data_ofL x)
theorem joinB_pieces (s : ByteArray) (c : UInt8) : joinB (piecesB s ⟨#[c]⟩) ⟨#[c]⟩ = s := by
 unfold joinB
 rw [dats_pieces, show (⟨#[c]⟩ : ByteArray).data.toList = [c] from rfl, join_split, ofL_data]
theorem joinN_size {l : List ByteArray} {sep : ByteArray} (h : l ≠ []) : joinN l sep = sep.size + (joinB l sep).size := by
 cases l with
 | nil => exact absurd rfl h
 | cons x r =>
  unfold joinN joinB
  rw [ofL_size, show dats (x :: r) = x.data.toList :: dats r from rfl, Lib.join_cons, List.length_append, Lib.joinTail_length]
  have h1 : (dats r).length = r.length := by simp [dats]
  have h2 : sep.data.toList.length = sep.size := by simp
  simp only [Lib.lens, List.map_cons, List.sum_cons, h1, h2, List.length_cons, Nat.mul_succ]
  omega
theorem pieces_ne (s sep : ByteArray) : piecesB s sep ≠ [] := by
 unfold piecesB
 simp [split_ne]
theorem joinN_pieces (s : ByteArray) (c : UInt8) : joinN (piecesB s ⟨#[c]⟩) ⟨#[c]⟩ = s.size + 1 := by
 rw [joinN_size (pieces_ne _ _), joinB_pieces, show (⟨#[c]⟩ : ByteArray).size = 1 from rfl]
 omega
end Go.Proofs.YtbaeljcnbkeipaaDoor.Pure
namespace Go.Proofs.YtbaeljcnbkeipaaDoor.Pure
open Go.RowKit Go.Proofs.YtbaeljcnbkeipaaDoorW.PrintWords Go.Proofs.YtbaeljcnbkeipaaDoor.Aux
def numOf (l : List UInt8) : Nat := l.foldl (fun a b => a * 10 + (b.toNat - 48)) 0
theorem numOf_snoc (l : List UInt8) (b : UInt8) : numOf (l ++ [b]) = numOf l * 10 + (b.toNat - 48) := by
 unfold numOf
 rw [List.foldl_append]
 rfl
theorem numOf_dec : ∀ (n u : Nat), u ≤ n → numOf (Lib.decDigits u) = u
 | 0, u, h => by
  obtain rfl : u = 0 := by omega
  rw [Lib.decDigits, dif_pos (by omega)]
  rfl
 | n + 1, u, h => by
  by_cases h9 : u < 10
  ·rw [Lib.decDigits, dif_pos h9]
   have := numOf_snoc [] (UInt8.ofNat (48 + u))
   rw [List.nil_append] at this
   rw [this, show numOf [] = 0 from rfl]
   simp
   omega
  ·rw [Lib.decDigits, dif_neg h9, numOf_snoc, numOf_dec n (u / 10) (by omega)]
   simp
   omega
end Go.Proofs.YtbaeljcnbkeipaaDoor.Pure
namespace Go.Proofs.YtbaeljcnbkeipaaDoor.Pure
open Go.RowKit Go.Proofs.YtbaeljcnbkeipaaDoor.Aux
def bl (x y : List UInt8) : Prop := Op.bytesLess x y = true
theorem bl_tr : ∀ x y z : List UInt8, Op.bytesLess x y = true → Op.bytesLess y z = true → Op.bytesLess x z = true
 | x, y, z, h, h' => by
  rw [bytesLess_eq, decide_eq_true_eq] at h h' ⊢
  exact List.lt_trans h h'
theorem bl_irr (x : List UInt8) : ¬ bl x x := by
 unfold bl
 have h := Mine.less_turned x x
 simp only [beq_self_eq_true, Bool.or_true, Bool.not_true] at h
 rw [h]
 simp
theorem bl_or (x y : List UInt8) : bl x y ∨ x = y ∨ bl y x := by
 unfold bl
 have h := Mine.less_turned x y
 cases hx : Op.bytesLess x y with
 | true => exact .inl rfl
 | false =>
  rw [hx, Bool.false_or] at h
  by_cases e : x = y
  ·exact .inr (.inl e)
  ·refine .inr (.inr ?_)
   rw [h]
   simp [e]
theorem le_iff (x y : List UInt8) : x ≤ y ↔ ¬ bl y x := by
 unfold bl
 rw [bytesLess_eq, decide_eq_true_eq]
 exact List.not_lt.symm
theorem asc_one : ∀ {l m : List (List UInt8)}, l.Pairwise bl → m.Pairwise bl → (∀ x, x ∈ l ↔ x ∈ m) → l = m
 | [], [], _, _, _ => rfl
 | [], y :: m, _, _, h => absurd ((h y).2 (by simp)) (by simp)
 | x :: l, [], _, _, h => absurd ((h x).1 (by simp)) (by simp)
 | x :: l, y :: m, hl, hm, h => by
  obtain ⟨hx, hl'⟩ := List.pairwise_cons.1 hl
  obtain ⟨hy, hm'⟩ := List.pairwise_cons.1 hm
  have e : x = y := by
   rcases List.mem_cons.1 ((h x).1 (by simp)) with e | e
   ·exact e
   rcases List.mem_cons.1 ((h y).2 (by simp)) with e' | e'
   ·exact e'.symm
   ·exact absurd (bl_tr _ _ _ (hx _ e') (hy _ e)) (bl_irr _)
  subst e
  refine congrArg (List.cons x) (asc_one hl' hm' fun z => ?_)
  constructor
  ·intro hz
   rcases List.mem_cons.1 ((h z).1 (List.mem_cons_of_mem _ hz)) with e | e
   ·exact absurd (e ▸ hx z hz) (bl_irr _)
   ·exact e
  ·intro hz
   rcases List.mem_cons.1 ((h z).2 (List.mem_cons_of_mem _ hz)) with e | e
   ·exact absurd (e ▸ hy z hz) (bl_irr _)
   ·exact e
theorem compact_upto (d : Array (List UInt8)) (hs : ∀ i j, i < j → j < d.size → ¬ bl d[j]! d[i]!) : ∀ m, m ≤ d.size →
  (Lib.compactUpTo d m).Pairwise bl ∧ (∀ x, x ∈ Lib.compactUpTo d m ↔ ∃ i, i < m ∧ x = d[i]!)
 | 0, _ => by
  refine ⟨by simp [Lib.compactUpTo], fun x => ?_⟩
  simp [Lib.compactUpTo]
 | m + 1, hm => by
  obtain ⟨h1, h2⟩ := compact_upto d hs m (by omega)
  rw [Lib.compactUpTo_succ]
  by_cases hk : Lib.keeps d m = true
  ·rw [if_pos hk]
   have new : ∀ i, i < m → bl d[i]! d[m]! := by
    intro i hi
    rcases bl_or d[i]! d[m]! with h | h | h
    ·exact h
    ·-- then all between are the same, and the last one is left out
     exfalso
     have e : d[m]! = d[m - 1]! := by
      by_cases him : i = m - 1
      ·rw [← him, h]
      ·rcases bl_or d[m - 1]! d[m]! with g | g | g
       ·exact absurd (h ▸ g) (hs i (m - 1) (by omega) (by omega))
       ·exact g.symm
       ·exact absurd g (hs (m - 1) m (by omega) (by omega))
     rw [Lib.keeps_neg (by omega) e] at hk
     exact absurd hk (by simp)
    ·exact absurd h (hs i m hi (by omega))
   refine ⟨?_, fun x => ?_⟩
   ·rw [List.pairwise_append]
    refine ⟨h1, by simp, fun a ha b hb => ?_⟩
    rw [List.mem_singleton.1 hb]
    obtain ⟨i, hi, rfl⟩ := (h2 a).1 ha
    exact new i hi
   ·rw [List.mem_append, h2, List.mem_singleton]
    constructor
    ·rintro (⟨i, hi, e⟩ | e)
     ·exact ⟨i, by omega, e⟩
     ·exact ⟨m, by omega, e⟩
    ·rintro ⟨i, hi, e⟩
     by_cases h : i = m
     ·exact .inr (h ▸ e)
     ·exact .inl ⟨i, by omega, e⟩
  ·rw [if_neg hk, List.append_nil]
   refine ⟨h1, fun x => ?_⟩
   rw [h2]
   constructor
   ·rintro ⟨i, hi, e⟩
    exact ⟨i, by omega, e⟩
   ·rintro ⟨i, hi, e⟩
    by_cases h : i = m
    ·subst h
     have hm0 : 0 < i := by
      apply Nat.pos_of_ne_zero
      rintro rfl
      exact hk (Lib.keeps_lt_one d 0 (by omega))
     by_cases g : d[i]! = d[i - 1]!
     ·exact ⟨i - 1, by omega, by rw [e, g]⟩
     ·exact absurd (Lib.keeps_pos g) hk
    ·exact ⟨i, by omega, e⟩
theorem sorted_compact (l : List (List UInt8)) : (Lib.compact (l.mergeSort fun x y => decide (x ≤ y))).Pairwise bl ∧ ∀ x, x ∈ Lib.compact (l.mergeSort fun x y => decide (x ≤ y)) ↔ x ∈ l := by
 have hp := List.pairwise_mergeSort (le := fun x y : List UInt8 => decide (x ≤ y)) (fun a b c h h' => by
  rw [decide_eq_true_eq] at h h' ⊢
  exact List.le_trans h h') (fun a b => by
  rcases List.le_total a b with h | h
  ·simp [h]
  ·simp [h]) l
 generalize hq : (l.mergeSort fun x y => decide (x ≤ y)) = q at hp
 have hmem : ∀ x, x ∈ q ↔ x ∈ l := fun x => by rw [← hq]; exact List.mem_mergeSort
 have hs : ∀ i j, i < j → j < q.toArray.size → ¬ bl q.toArray[j]! q.toArray[i]! := by
  intro i j hij hj
  have hj' : j < q.length := by simpa using hj
  have h := List.pairwise_iff_getElem.1 hp i j (by omega) hj' hij
  rw [decide_eq_true_eq, le_iff] at h
  simpa [getElem!_pos, hj', show i < q.length by omega] using h
 obtain ⟨h1, h2⟩ := compact_upto q.toArray hs q.length (by simp)
 refine ⟨h1, fun x => ?_⟩
 rw [← hmem]
 refine (h2 x).trans ?_
 rw [List.mem_iff_getElem]
 constructor
 ·rintro ⟨i, hi, e⟩
  exact ⟨i, hi, by rw [e]; simp [getElem!_pos, hi]⟩
 ·rintro ⟨i, hi, e⟩
  exact ⟨i, hi, by rw [← e]; simp [getElem!_pos, hi]⟩
end Go.Proofs.YtbaeljcnbkeipaaDoor.Pure
namespace Go.Proofs.YtbaeljcnbkeipaaDoor.Pure
open Go.RowKit Go.Proofs.YtbaeljcnbkeipaaDoor.PGB Go.Proofs.YtbaeljcnbkeipaaDoorW.PrintWords Go.Proofs.YtbaeljcnbkeipaaDoorW.PrintLast Go.Proofs.YtbaeljcnbkeipaaDoor.Aux
def blB (a b : ByteArray) : Prop := bl a.toList b.toList
theorem ascB_one {l m : List ByteArray} (hl : l.Pairwise blB) (hm : m.Pairwise blB) (h : ∀ x, x ∈ l ↔ x ∈ m) : l = m := by
 have e : l.map ByteArray.toList = m.map ByteArray.toList := asc_one (List.pairwise_map.2 hl) (List.pairwise_map.2 hm) (fun x => by
  rw [List.mem_map, List.mem_map]
  constructor
  ·rintro ⟨a, ha, rfl⟩; exact ⟨a, (h a).1 ha, rfl⟩
  ·rintro ⟨a, ha, rfl⟩; exact ⟨a, (h a).2 ha, rfl⟩)
 exact (List.map_inj_right (fun x y hxy => toList_inj.1 hxy)).1 e
def sortB (l : List ByteArray) : List ByteArray := impl_Sorted.once (impl_Sorted.rise l)
theorem sortB_eq (l : List ByteArray) : sortB l = impl_Sorted.back (Lib.compact ((impl_Sorted.strs l).mergeSort fun x y => decide (x ≤ y))) := by
 unfold sortB impl_Sorted.once impl_Sorted.rise
 rw [impl_Sorted.strs_back]
theorem sortB_spec (l : List ByteArray) : (sortB l).Pairwise blB ∧ ∀ x, x ∈ sortB l ↔ x ∈ l := by
 obtain ⟨h1, h2⟩ := sorted_compact (impl_Sorted.strs l)
 rw [sortB_eq]
 refine ⟨?_, fun x => ?_⟩
 ·unfold impl_Sorted.back
  rw [List.pairwise_map]
  refine h1.imp ?_
  intro a b hab
  unfold blB
  rw [toList_data, toList_data]
  exact hab
 ·unfold impl_Sorted.back
  rw [List.mem_map]
  constructor
  ·rintro ⟨a, ha, rfl⟩
   have := (h2 a).1 ha
   unfold impl_Sorted.strs at this
   obtain ⟨y, hy, rfl⟩ := List.mem_map.1 this
   exact hy
  ·intro hx
   exact ⟨x.data.toList, (h2 _).2 (List.mem_map.2 ⟨x, hx, rfl⟩), rfl⟩
theorem sortB_length (l : List ByteArray) : (sortB l).length ≤ l.length := by
 rw [sortB_eq]
 unfold impl_Sorted.back
 rw [List.length_map]
 refine Nat.le_trans (Lib.compact_length_le _) ?_
 rw [List.length_mergeSort]
 unfold impl_Sorted.strs
 rw [List.length_map]
 exact Nat.le_refl _
theorem impl_sorted (l : List ByteArray) (hl : l.length < 8796093022208) : impl_Sorted.f l = some (sortB l) := by
 unfold impl_Sorted.f slices_Clone_string_string.f
 simp [hl, sortB]
theorem lawAsc_l (a : List ByteArray) (hl : a.length ≤ 9223372036854775807) (ha : a.Pairwise blB) (d : Nat) : ∀ i : Nat, 1 ≤ i → (i + d = a.length ∨ a.length < i ∧ d = 0) → Ev (fun k => laws_ascending.l0 k a (i : Int)) true := by
 induction d with
 | zero =>
  intro i h1 hi
  refine Ev.succ ?_
  simp only [laws_ascending.l0, show ¬ (i : Int) < (a.length : Int) by omega, if_false]
  exact Ev.some
 | succ d ih =>
  intro i h1 hi
  have hlt : i < a.length := by omega
  have h3 := next_i hlt hl
  have hw : wrap64 ((i : Int) - 1) = ((i - 1 : Nat) : Int) := by rw [wrap64_id (by omega) (by omega)]; omega
  have hp : Op.bytesLess (rdOf ByteArray.empty a ((i - 1 : Nat) : Int)).toList (rdOf ByteArray.empty a (i : Int)).toList = true := by
   rw [rdOf_cast _ hlt, rdOf_cast _ (show i - 1 < a.length by omega)]
   exact List.pairwise_iff_getElem.1 ha (i - 1) i (by omega) hlt (by omega)
  refine Ev.succ ?_
  simp only [laws_ascending.l0, show (i : Int) < (a.length : Int) by omega, show (0 : Int) ≤ (i : Int) by omega, if_true, h3, hw, show (0 : Int) ≤ ((i - 1 : Nat) : Int) by omega, show ((i - 1 : Nat) : Int) < (a.length : Int) by omega, hp]
  exact ih (i + 1) (by omega) (by omega)
theorem lawAsc (a : List ByteArray) (hl : a.length ≤ 9223372036854775807) (ha : a.Pairwise blB) : Ev (fun k => laws_ascending.f k a) true := by
 unfold laws_ascending.f
 exact lawAsc_l a hl ha (a.length - 1) 1 (by omega) (by omega)
theorem lawTexts_l (a b : List ByteArray) (hl : a.length ≤ 9223372036854775807) (hab : a.length = b.length) (d : Nat) : ∀ i : Nat, i + d = a.length →
  Ev (fun k => laws_sameTexts.l0 k a b (i : Int)) (decide (a.drop i = b.drop i)) := by
 induction d with
 | zero =>
  intro i hi
  have h1 : ¬ (i : Int) < (a.length : Int) := by omega
  refine Ev.succ ?_
  rw [List.drop_eq_nil_of_le (by omega), List.drop_eq_nil_of_le (by omega)]
  simp only [laws_sameTexts.l0, h1, if_false, decide_true]
  exact Ev.some
 | succ d ih =>
  intro i hi
  have hlt : i < a.length := by omega
  have hlb : i < b.length := by omega
  have h1 : (i : Int) < (a.length : Int) := by omega
  have h1b : (i : Int) < (b.length : Int) := by omega
  have h2 : (0 : Int) ≤ (i : Int) := by omega
  have h3 := next_i hlt hl
  refine Ev.succ ?_
  rw [drop_get hlt, drop_get hlb]
  simp only [laws_sameTexts.l0, h1, h1b, h2, h3, if_true, rdOf_cast _ hlt, rdOf_cast _ hlb, toList_inj]
  by_cases h : a[i] = b[i]
  ·simp only [h, if_true, List.cons.injEq, true_and]
   exact ih (i + 1) (by omega)
  ·simp only [h, if_false, List.cons.injEq, false_and, decide_false]
   exact Ev.some
theorem lawTexts (a b : List ByteArray) (hl : a.length ≤ 9223372036854775807) : Ev (fun k => laws_sameTexts.f k a b) (decide (a = b)) := by
 unfold laws_sameTexts.f
 by_cases h : (a.length : Int) = (b.length : Int)
 ·simp only [h, if_true]
  refine Ev.succ ?_
  simp only [laws_sameTexts.j0]
  exact lawTexts_l a b hl (by omega) a.length 0 (by omega)
 ·simp only [h, if_false]
  refine Ev.cast Ev.some ?_
  rw [eq_comm, decide_eq_false_iff_not]
  exact fun e => h (by rw [e])
end Go.Proofs.YtbaeljcnbkeipaaDoor.Pure
