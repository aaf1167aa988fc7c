/- What the functions come to. -/
import Derived.Test.YtglhniiabhknoaaDoorZGAAux
import Derived.Lib.SplitLaws
import Derived.Lib.ItoaNum
import Derived.Test.YtglhniiabhknoaaDoorZGAPGAx1
import Derived.Test.YtglhniiabhknoaaDoorZGAPGAx5
import Derived.Lib.Join
import Derived.Test.YtglhniiabhknoaaDoorZGAPGAx0
import Derived.Test.YtglhniiabhknoaaDoorZGAPGAx8
import Derived.Test.YtglhniiabhknoaaDoorZGAOGA
set_option linter.unusedVariables false
set_option linter.unusedSimpArgs false
namespace Go.Proofs.YtglhniiabhknoaaDoor.Pure
open Go.RowKit Go.Proofs.YtglhniiabhknoaaDoor.Aux Go.Proofs.YtglhniiabhknoaaDoorW.PrintWords
theorem Ev.yes {α : Type} {c : Prop} [Decidable c] {g f : Nat → Option α} {r : α} (hc : c) (h : Ev g r) : Ev (fun k => if c then g k else f k) r := by
 simpa only [hc, if_true] using h
theorem Ev.no {α : Type} {c : Prop} [Decidable c] {g f : Nat → Option α} {r : α} (hc : ¬ c) (h : Ev f r) : Ev (fun k => if c then g k else f k) r := by
 simpa only [hc, if_false] using h
def ofL (l : List UInt8) : ByteArray := ⟨l.toArray⟩
theorem ofL_data (s : ByteArray) : ofL s.data.toList = s := by cases s; simp [ofL]
theorem ofL_size (l : List UInt8) : (ofL l).size = l.length := by simp [ofL, ByteArray.size]
end Go.Proofs.YtglhniiabhknoaaDoor.Pure
namespace Go.Proofs.YtglhniiabhknoaaDoor.Pure
open Go.RowKit Go.Proofs.YtglhniiabhknoaaDoor.PGA Go.Proofs.YtglhniiabhknoaaDoorW.PrintWords Go.Proofs.YtglhniiabhknoaaDoorW.PrintLast Go.Proofs.YtglhniiabhknoaaDoor.Aux
def numB (x : Int) : ByteArray := ofL (Lib.decDigits x.toNat)
theorem dig_one (x : Nat) : strOfNums [wrap64 (48 + Int.tmod (x : Int) 10) % 256] = ofL [UInt8.ofNat (48 + x % 10)] := by
 have h : wrap64 (48 + Int.tmod (x : Int) 10) % 256 = ((48 + x % 10 : Nat) : Int) := by
  rw [Int.tmod_eq_emod_of_nonneg (by omega), wrap64_id (by omega) (by omega)]
  omega
 rw [h]
 rfl
theorem ofL_append (a b : List UInt8) : ofL a ++ ofL b = ofL (a ++ b) := by
 rw [← ofL_data (ofL a ++ ofL b)]
 simp [ofL]
theorem spec_num_l (m : Nat) : ∀ (x : Nat) (rest : List UInt8), x < 10 ^ m → x ≤ 9223372036854775807 → m + rest.length ≤ 100 →
  Ev (fun k => spec_NumText.l0 k (x : Int) (ofL (UInt8.ofNat (48 + x % 10) :: rest))) (ofL (Lib.decDigits x ++ rest)) := by
 induction m with
 | zero =>
  intro x rest hx _ hr
  obtain rfl : x = 0 := by simp at hx; exact hx
  refine Ev.succ ?_
  simp only [spec_NumText.l0, show ¬ ((0 : Nat) : Int) > 9 by omega, if_false]
  refine Ev.cast Ev.some ?_
  rw [Lib.decDigits, dif_pos (by omega)]
  rfl
 | succ m ih =>
  intro x rest hx hx2 hr
  by_cases h9 : x < 10
  ·refine Ev.succ ?_
   simp only [spec_NumText.l0, show ¬ (x : Int) > 9 by omega, if_false]
   refine Ev.cast Ev.some ?_
   rw [Lib.decDigits, dif_pos h9, Nat.mod_eq_of_lt h9]
   rfl
  ·have hd : wrap64 (Int.tdiv (x : Int) 10) = ((x / 10 : Nat) : Int) := by
    rw [Int.tdiv_eq_ediv_of_nonneg (by omega), wrap64_id (by omega) (by omega)]
    omega
   have hw : ∀ (y : Nat), (strOfNums [wrap64 (48 + Int.tmod (y : Int) 10) % 256]) = ofL [UInt8.ofNat (48 + y % 10)] := dig_one
   have := ih (x / 10) (UInt8.ofNat (48 + x % 10) :: rest) (by rw [Nat.pow_succ] at hx; omega) (by omega) (by simp only [List.length_cons]; omega)
   refine Ev.succ ?_
   simp only [spec_NumText.l0, show (x : Int) > 9 by omega, if_true, Option.bind_some, hd, hw, ofL_append, ofL_size, List.length_cons, List.length_nil, show 0 + 1 + (rest.length + 1) ≤ 9223372036854775807 by omega]
   refine Ev.cast this ?_
   rw [show Lib.decDigits x = Lib.decDigits (x / 10) ++ [UInt8.ofNat (48 + x % 10)] from by rw [Lib.decDigits, dif_neg h9]]
   simp
theorem spec_num (x : Int) (h : x ≤ 9223372036854775807) : Ev (fun k => spec_NumText.f k x) (numB x) := by
 unfold spec_NumText.f numB
 by_cases h0 : x < 0
 ·simp only [h0, if_true]
  refine Ev.succ ?_
  simp only [spec_NumText.j0]
  have := spec_num_l 1 0 [] (by omega) (by omega) (by simp)
  rw [show x.toNat = 0 by omega]
  have hd := dig_one 0
  rw [show ((0 : Nat) : Int) = 0 from rfl] at hd this
  rw [hd]
  simpa using this
 ·simp only [h0, if_false]
  obtain ⟨n, rfl⟩ : ∃ n : Nat, x = n := ⟨x.toNat, by omega⟩
  refine Ev.succ ?_
  simp only [spec_NumText.j0]
  have := spec_num_l 19 n [] (by omega) (by omega) (by simp)
  rw [dig_one n]
  simpa using this
def dats (l : List ByteArray) : List (List UInt8) := l.map (·.data.toList)
def joinB (l : List ByteArray) (sep : ByteArray) : ByteArray := ofL (Lib.join (dats l) sep.data.toList)
def joinN (l : List ByteArray) (sep : ByteArray) : Nat := sep.size * l.length + Lib.lens (dats l)
theorem lens_szT : ∀ l : List ByteArray, (Lib.lens (dats l) : Int) = szT l
 | [] => rfl
 | x :: r => by
  have := lens_szT r
  simp only [Lib.lens, dats, List.map_cons, List.sum_cons, szT] at this ⊢
  rw [← this]
  simp
theorem joinB_size (l : List ByteArray) (sep : ByteArray) : (joinB l sep).size ≤ joinN l sep := by
 unfold joinB joinN
 rw [ofL_size]
 cases l with
 | nil => simp [dats, Lib.join_nil]
 | cons x r =>
  rw [show dats (x :: r) = x.data.toList :: dats r from rfl, Lib.join_length]
  have h1 : (dats r).length = r.length := by simp [dats]
  have h2 : sep.data.toList.length = sep.size := by simp
  rw [h1, h2, List.length_cons, Nat.mul_succ]
  omega
theorem strings_join (l : List ByteArray) (sep : ByteArray) (hb : joinN l sep ≤ 140737488355328) (hr : l.length ≤ 140737488355328) : strings_Join.f l sep = some (joinB l sep) := by
 have h := joinB_size l sep
 unfold joinB at h
 rw [ofL_size] at h
 unfold strings_Join.f
 rw [if_pos ⟨Nat.le_trans h hb, hr⟩]
 rfl
theorem decDigits_len : ∀ (m u : Nat), u < 10 ^ (m + 1) → (Lib.decDigits u).length ≤ m + 1
 | 0, u, h => by
  rw [Lib.decDigits, dif_pos (by simpa using h)]
  simp
 | m + 1, u, h => by
  by_cases h9 : u < 10
  ·rw [Lib.decDigits, dif_pos h9]
   simp
  ·have := decDigits_len m (u / 10) (by rw [Nat.pow_succ] at h; omega)
   rw [Lib.decDigits, dif_neg h9, List.length_append]
   simp only [List.length_cons, List.length_nil]
   omega
theorem numB_len {x : Int} (h : x ≤ 9223372036854775807) : (numB x).size ≤ 19 := by
 unfold numB
 rw [ofL_size]
 exact decDigits_len 18 _ (by omega)
theorem tl_assoc (a b c : ByteArray) : a ++ b ++ c = a ++ (b ++ c) := by
 rw [← ofL_data (a ++ b ++ c), ← ofL_data (a ++ (b ++ c))]
 simp
theorem tl_nil (s : ByteArray) : s ++ (⟨#[]⟩ : ByteArray) = s := by
 rw [← ofL_data (s ++ _)]
 conv => rhs; rw [← ofL_data s]
 simp [ofL]
theorem nil_tl (s : ByteArray) : (⟨#[]⟩ : ByteArray) ++ s = s := by
 rw [← ofL_data (_ ++ s)]
 conv => rhs; rw [← ofL_data s]
 simp [ofL]
def tlV (sep : ByteArray) : Nat → List ByteArray → ByteArray
 | _, [] => ⟨#[]⟩
 | 0, p :: ps => p ++ tlV sep 1 ps
 | _ + 1, p :: ps => sep ++ (p ++ tlV sep 1 ps)
theorem tlV_zero (sep p : ByteArray) (ps : List ByteArray) : tlV sep 0 (p :: ps) = p ++ tlV sep 1 ps := rfl
theorem tlV_succ (sep p : ByteArray) (n : Nat) (ps : List ByteArray) : tlV sep (n + 1) (p :: ps) = sep ++ (p ++ tlV sep 1 ps) := rfl
theorem tlV_end (sep : ByteArray) (n : Nat) : tlV sep n [] = ⟨#[]⟩ := by cases n <;> rfl
theorem tlV_one (sep : ByteArray) (n : Nat) (l : List ByteArray) : tlV sep (n + 1) l = tlV sep 1 l := by
 cases l <;> rfl
theorem tlV_tail (sep : ByteArray) : ∀ l : List ByteArray, tlV sep 1 l = ofL (Lib.joinTail sep.data.toList (dats l))
 | [] => rfl
 | p :: ps => by
  rw [show tlV sep 1 (p :: ps) = sep ++ (p ++ tlV sep 1 ps) from rfl, tlV_tail sep ps]
  rw [← ofL_data (sep ++ _)]
  simp [ofL, Lib.joinTail, dats]
theorem tlV_join (sep : ByteArray) : ∀ l : List ByteArray, tlV sep 0 l = joinB l sep
 | [] => rfl
 | p :: ps => by
  rw [show tlV sep 0 (p :: ps) = p ++ tlV sep 1 ps from rfl, tlV_tail sep ps]
  unfold joinB
  rw [show dats (p :: ps) = p.data.toList :: dats ps from rfl, Lib.join_cons, ← ofL_data (p ++ _)]
  simp [ofL]
def quoteB (s : ByteArray) : ByteArray := ofL (34 :: (s.data.toList.flatMap impl_quoted.esc ++ [34]))
theorem quoteB_size (s : ByteArray) : (quoteB s).size ≤ 2 * s.size + 2 := by
 have := impl_quoted.pre_len s.data.toList
 unfold quoteB
 rw [ofL_size, List.length_cons, List.length_append]
 simp at this ⊢
 omega
theorem impl_quote (s : ByteArray) (h : s.size ≤ 1048576) : impl_quoted.f s = some (quoteB s) := by
 unfold impl_quoted.f
 rw [if_pos (by omega)]
 rfl
theorem ext_one (s : ByteArray) (i : Nat) (h : i < s.size) : s.extract i (i + 1) = ofL [s[i]] := by
 rw [← ofL_data (s.extract i (i + 1))]
 simp only [ByteArray.data_extract, Array.toList_extract, List.extract_eq_take_drop, Nat.add_sub_cancel_left]
 rw [List.drop_eq_getElem_cons (by rw [Array.length_toList]; exact h)]
 rfl
theorem out_esc (s : ByteArray) (i : Nat) (h : i < s.size) {l : List UInt8} (hl : impl_quoted.esc s[i] = l) : ofL (impl_quoted.out s i) ++ ofL l = ofL (impl_quoted.out s (i + 1)) := by
 rw [ofL_append, impl_quoted.out_step s i h, hl]
theorem spec_quote_l (s : ByteArray) (hs : s.size ≤ 1048576) (d : Nat) : ∀ i : Nat, i + d = s.size → Ev (fun k => spec_l2Quote.l0 k s (ofL (impl_quoted.out s i)) (i : Int)) (quoteB s) := by
 induction d with
 | zero =>
  intro i hi
  have h1 : ¬ (i : Int) < (s.size : Int) := by omega
  have hl := impl_quoted.out_len s i (by omega)
  refine Ev.succ ?_
  simp only [spec_l2Quote.l0, h1, if_false, ofL_size]
  rw [if_pos (by omega)]
  refine Ev.cast Ev.some ?_
  rw [show (⟨#[34]⟩ : ByteArray) = ofL [34] from rfl, ofL_append]
  unfold impl_quoted.out quoteB
  rw [List.take_of_length_le (by rw [Array.length_toList]; show s.size ≤ i; omega)]
  rfl
 | succ d ih =>
  intro i hi
  have hlt : i < s.size := by omega
  have h1 : (i : Int) < (s.size : Int) := by omega
  have h2 : (0 : Int) ≤ (i : Int) := by omega
  have h3 := next_i hlt (by omega)
  have hl := impl_quoted.out_len s i (by omega)
  have hb : ((s[i].toNat : Nat) : Int) = bt s (i : Int) := bt_at s (i : Int) hlt
  have ih' := ih (i + 1) (by omega)
  have go : ∀ l, impl_quoted.esc s[i] = l → Ev (fun k => spec_l2Quote.l0 k s (ofL (impl_quoted.out s i) ++ ofL l) ((i + 1 : Nat) : Int)) (quoteB s) := fun l he => by
   rw [out_esc s i hlt he]; exact ih'
  have bz : (ofL (impl_quoted.out s i)).size ≤ 4194304 := by rw [ofL_size]; omega
  refine Ev.succ ?_
  simp only [spec_l2Quote.l0, h1, if_true]
  refine Ev.succ ?_
  simp only [spec_l2Quote.j1, h1, h2, h3, if_true, ← hb]
  have e : ∀ (c : UInt8) (n : Int), (c.toNat : Int) = n → (((s[i].toNat : Nat) : Int) = n ↔ s[i] = c) := fun c n hc => ⟨fun h => UInt8.toNat_inj.1 (by omega), fun h => by rw [h]; exact hc⟩
  have g : ∀ l, impl_quoted.esc s[i] = l → l.length ≤ 2 := fun l h => by rw [← h]; exact impl_quoted.esc_len _
  simp only [e 34 34 rfl, e 92 92 rfl, e 10 10 rfl, e 9 9 rfl]
  by_cases c34 : s[i] = 34
  ·simp only [c34, if_true]
   exact Ev.yes (by omega) (go [92, 34] (by rw [c34]; rfl))
  by_cases c92 : s[i] = 92
  ·simp only [c92, if_true, show ¬ (92 : UInt8) = 34 by decide, if_false]
   exact Ev.yes (by omega) (go [92, 92] (by rw [c92]; rfl))
  by_cases c10 : s[i] = 10
  ·simp only [c10, if_true, show ¬ (10 : UInt8) = 34 by decide, show ¬ (10 : UInt8) = 92 by decide, if_false]
   exact Ev.yes (by omega) (go [92, 110] (by rw [c10]; rfl))
  by_cases c9 : s[i] = 9
  ·simp only [c9, if_true, show ¬ (9 : UInt8) = 34 by decide, show ¬ (9 : UInt8) = 92 by decide, show ¬ (9 : UInt8) = 10 by decide, if_false]
   exact Ev.yes (by omega) (go [92, 116] (by rw [c9]; rfl))
  simp only [c34, c92, c10, c9, if_false, Int.toNat_natCast, ext_one s i hlt]
  refine Ev.yes (by omega) (Ev.yes (by omega) (Ev.yes ?_ ?_))
  ·have : (ofL [s[i]]).size = 1 := by rw [ofL_size]; rfl
   omega
  ·exact go [s[i]] (by unfold impl_quoted.esc; rw [if_neg c34, if_neg c92, if_neg c10, if_neg c9])
theorem spec_quote (s : ByteArray) (hs : s.size ≤ 1048576) : Ev (fun k => spec_l2Quote.f k s) (quoteB s) := by
 unfold spec_l2Quote.f
 have := spec_quote_l s hs s.size 0 (by omega)
 exact this
theorem szStringS_l (l : List ByteArray) (hl : l.length ≤ 9223372036854775807) (hs : ∀ x ∈ l, x.size ≤ 9223372036854775807) (d : Nat) : ∀ (i : Nat) (a : Int), i + d = l.length → 0 ≤ a → a ≤ 9223372036854775807 →
  Ev (fun k => laws_szStringS.l0 k l a (i : Int)) (left (szT (l.drop i)) a) := by
 induction d with
 | zero =>
  intro i a hi h0 ha
  have h1 : ¬ (i : Int) < (l.length : Int) := by omega
  refine Ev.succ ?_
  rw [List.drop_eq_nil_of_le (by omega), left_pos (by simpa [szT] using h0)]
  simp only [laws_szStringS.l0, h1, if_false, szT, Int.sub_zero]
  exact Ev.some
 | succ d ih =>
  intro i a hi h0 ha
  have hlt : i < l.length := by omega
  have h1 : (i : Int) < (l.length : Int) := by omega
  have h2 : (0 : Int) ≤ (i : Int) := by omega
  have h3 := next_i hlt hl
  have hx := hs _ (List.getElem_mem hlt)
  have h4 : wrap64 (a - (l[i].size : Int)) = a - (l[i].size : Int) := wrap64_id (by omega) (by omega)
  have hn := szT_nonneg (l.drop (i + 1))
  refine Ev.succ ?_
  rw [drop_get hlt]
  simp only [laws_szStringS.l0, h1, h2, h3, if_true, rdOf_cast _ hlt, h4, szT]
  by_cases h5 : a - (l[i].size : Int) < 0
  ·simp only [h5, if_true]
   rw [left_not (by omega)]
   exact Ev.some
  ·simp only [h5, if_false]
   refine Ev.cast (ih (i + 1) (a - (l[i].size : Int)) (by omega) (by omega) (by omega)) ?_
   unfold left
   split <;> split <;> omega
theorem szStringS (l : List ByteArray) (a : Int) (hl : l.length ≤ 9223372036854775807) (hs : ∀ x ∈ l, x.size ≤ 9223372036854775807) (h0 : 0 ≤ a) (ha : a ≤ 9223372036854775807) : Ev (fun k => laws_szStringS.f k l a) (left (szL l) a) := by
 unfold laws_szStringS.f
 have hn := szT_nonneg l
 rw [wrap64_id (by omega) (by omega)]
 by_cases h : a - (l.length : Int) < 0
 ·simp only [h, if_true]
  rw [left_not (by unfold szL; omega)]
  exact Ev.some
 ·simp only [h, if_false]
  refine Ev.succ ?_
  simp only [laws_szStringS.j0]
  refine Ev.cast (szStringS_l l hl hs l.length 0 (a - (l.length : Int)) (by omega) (by omega) (by omega)) ?_
  unfold left szL
  rw [List.drop_zero]
  split <;> split <;> omega
theorem toStringS_l (l : List ByteArray) (hl : l.length ≤ 9223372036854775807) (d : Nat) : ∀ (i : Nat) (x : List ByteArray), i + d = l.length → x.length = l.length → x.take i = l.take i →
  Ev (fun k => laws_toStringS.l0 k l x (i : Int)) l := by
 induction d with
 | zero =>
  intro i x hi hx he
  have h1 : ¬ (i : Int) < (l.length : Int) := by omega
  have e : x = l := by rwa [List.take_of_length_le (by omega), List.take_of_length_le (by omega)] at he
  refine Ev.succ ?_
  simp only [laws_toStringS.l0, h1, if_false, e]
  exact Ev.some
 | succ d ih =>
  intro i x hi hx he
  have hlt : i < l.length := by omega
  have h1 : (i : Int) < (l.length : Int) := by omega
  have h1x : (i : Int) < (x.length : Int) := by omega
  have h2 : (0 : Int) ≤ (i : Int) := by omega
  have h3 := next_i hlt hl
  refine Ev.succ ?_
  simp only [laws_toStringS.l0, h1, h1x, h2, h3, if_true, Int.toNat_natCast, rdOf_cast _ hlt]
  exact ih (i + 1) _ (by omega) (by simpa using hx) (take_set_step (by omega) hlt he)
theorem toStringS (l : List ByteArray) (hl : l.length ≤ 17592186044416) : Ev (fun k => laws_toStringS.f k l) l := by
 unfold laws_toStringS.f
 simp only [show (0 : Int) ≤ (l.length : Int) by omega, show (l.length : Int).toNat ≤ 17592186044416 by omega, if_true]
 exact toStringS_l l (by omega) l.length 0 _ (by omega) (by simp) (by simp)
theorem eqStringS_l (a b : List ByteArray) (hl : a.length ≤ 9223372036854775807) (hab : a.length = b.length) (d : Nat) : ∀ i : Nat, i + d = a.length →
  Ev (fun k => laws_eqStringS.l0 k a b (i : Int)) (decide (a.drop i = b.drop i)) := by
 induction d with
 | zero =>
  intro i hi
  have h1 : ¬ (i : Int) < (a.length : Int) := by omega
  refine Ev.succ ?_
  rw [List.drop_eq_nil_of_le (by omega), List.drop_eq_nil_of_le (by omega)]
  simp only [laws_eqStringS.l0, h1, if_false, decide_true]
  exact Ev.some
 | succ d ih =>
  intro i hi
  have hlt : i < a.length := by omega
  have hlb : i < b.length := by omega
  have h1 : (i : Int) < (a.length : Int) := by omega
  have h1b : (i : Int) < (b.length : Int) := by omega
  have h2 : (0 : Int) ≤ (i : Int) := by omega
  have h3 := next_i hlt hl
  refine Ev.succ ?_
  rw [drop_get hlt, drop_get hlb]
  simp only [laws_eqStringS.l0, h1, h1b, h2, h3, if_true, rdOf_cast _ hlt, rdOf_cast _ hlb, toList_inj]
  by_cases h : a[i] = b[i]
  ·simp only [h, if_true, List.cons.injEq, true_and]
   exact ih (i + 1) (by omega)
  ·simp only [h, if_false, List.cons.injEq, false_and, decide_false]
   exact Ev.some
theorem eqStringS (a b : List ByteArray) (hl : a.length ≤ 9223372036854775807) : Ev (fun k => laws_eqStringS.f k a b) (decide (a = b)) := by
 unfold laws_eqStringS.f
 by_cases h : (a.length : Int) = (b.length : Int)
 ·simp only [h, if_true]
  refine Ev.succ ?_
  simp only [laws_eqStringS.j0]
  exact eqStringS_l a b hl (by omega) a.length 0 (by omega)
 ·simp only [h, if_false]
  have : ¬ a = b := fun e => h (by rw [e])
  simp only [this, decide_false]
  exact Ev.some
theorem all_mem {β : Type} {P : β → Nat → Prop} : ∀ (l : List β), (∀ x ∈ l, ∃ K, ∀ k, K ≤ k → P x k) → ∃ K, ∀ k, K ≤ k → ∀ x ∈ l, P x k
 | [], _ => ⟨0, fun _ _ _ h => by cases h⟩
 | y :: r, h => by
  obtain ⟨K, hK⟩ := h y (List.mem_cons_self ..)
  obtain ⟨K', hK'⟩ := all_mem r (fun x hx => h x (List.mem_cons_of_mem _ hx))
  refine ⟨max K K', fun k hk x hx => ?_⟩
  rcases List.mem_cons.1 hx with e | hx
  ·rw [e]; exact hK k (by omega)
  ·exact hK' k (by omega) x hx
theorem all_le {P : Int → Nat → Prop} (N : Nat) (h : ∀ a : Int, 0 ≤ a → a ≤ (N : Int) → ∃ K, ∀ k, K ≤ k → P a k) : ∃ K, ∀ k, K ≤ k → ∀ a : Int, 0 ≤ a → a ≤ (N : Int) → P a k := by
 obtain ⟨K, hK⟩ := all_mem (P := fun (n : Nat) k => P (n : Int) k) (List.range (N + 1)) (fun n hn => h n (by omega) (by have := List.mem_range.1 hn; omega))
 refine ⟨K, fun k hk a h0 h1 => ?_⟩
 obtain ⟨n, rfl⟩ := Int.eq_ofNat_of_zero_le h0
 exact hK k hk n (List.mem_range.2 (by omega))
mutual
def needVal : S25 → Int
 | ⟨_, _, s, l, ks⟩ => (s.size : Int) + ((l.length : Int) + needValS l) + szL ks
def needValS : List S25 → Int
 | [] => 0
 | x :: r => needVal x + needValS r
end
theorem needVal_eq (x : S25) : needVal x = (x.f2.size : Int) + ((x.f3.length : Int) + needValS x.f3) + szL x.f4 := by cases x; rw [needVal]
mutual
theorem needVal_nonneg : ∀ x : S25, 0 ≤ needVal x
 | ⟨_, _, s, l, ks⟩ => by
  have h1 := needValS_nonneg l
  have h2 := szL_nonneg ks
  rw [needVal]
  omega
theorem needValS_nonneg : ∀ l : List S25, 0 ≤ needValS l
 | [] => by rw [needValS]; omega
 | x :: r => by
  have h1 := needVal_nonneg x
  have h2 := needValS_nonneg r
  rw [needValS]
  omega
end
theorem needVal_mem : ∀ {l : List S25} {x : S25}, x ∈ l → needVal x ≤ needValS l
 | y :: r, x, h => by
  have h1 := needVal_nonneg y
  have h2 := needValS_nonneg r
  rw [needValS]
  rcases List.mem_cons.1 h with e | h
  ·rw [e]; omega
  ·have := needVal_mem h; omega
/-! Sizes. -/
theorem szValS_l [laws_szVal.Rec] (l : List S25) (hl : l.length ≤ 9223372036854775807)
  (hF : ∀ k, ∀ x ∈ l, ∀ a : Int, 0 ≤ a → a ≤ 1048576 → laws_szVal.Rec.f k x.f0 x.f1 x.f2 x.f3 x.f4 a = some (left (needVal x) a)) (d : Nat) : ∀ (i k : Nat) (a : Int), i + d = l.length → d < k → 0 ≤ a → a ≤ 1048576 →
  laws_szValS.l0 k l a (i : Int) = some (left (needValS (l.drop i)) a) := by
 induction d with
 | zero =>
  intro i k a hi hk h0 ha
  obtain ⟨k, rfl⟩ : ∃ m, k = m + 1 := ⟨k - 1, by omega⟩
  have h1 : ¬ (i : Int) < (l.length : Int) := by omega
  rw [List.drop_eq_nil_of_le (by omega), left_pos (by rw [needValS]; exact h0)]
  simp only [laws_szValS.l0, h1, if_false, needValS, Int.sub_zero]
 | succ d ih =>
  intro i k a hi hk h0 ha
  obtain ⟨k, rfl⟩ : ∃ m, k = m + 1 := ⟨k - 1, by omega⟩
  have hlt : i < l.length := by omega
  have h1 : (i : Int) < (l.length : Int) := by omega
  have h2 : (0 : Int) ≤ (i : Int) := by omega
  have h3 := next_i hlt hl
  have hn := needValS_nonneg (l.drop (i + 1))
  have hn0 := needVal_nonneg l[i]
  have hg : rd_T25 l (i : Int) = l[i] := rdD_cast _ hlt
  rw [drop_get hlt]
  simp only [laws_szValS.l0, h1, h2, h3, if_true, hg, needValS]
  rw [hF k l[i] (List.getElem_mem hlt) a h0 ha]
  simp only [Option.bind_some]
  by_cases h5 : needVal l[i] ≤ a
  ·rw [left_pos h5]
   simp only [show ¬ a - needVal l[i] < 0 by omega, if_false]
   rw [ih (i + 1) k (a - needVal l[i]) (by omega) (by omega) (by omega) (by omega)]
   congr 1
   unfold left
   split <;> split <;> omega
  ·rw [left_not h5, left_not (by omega)]
   rfl
theorem szValS_f [laws_szVal.Rec] (l : List S25) (hl : l.length ≤ maxLen)
  (hF : ∀ k, ∀ x ∈ l, ∀ a : Int, 0 ≤ a → a ≤ 1048576 → laws_szVal.Rec.f k x.f0 x.f1 x.f2 x.f3 x.f4 a = some (left (needVal x) a)) (k : Nat) (a : Int) (hk : l.length + 2 ≤ k) (h0 : 0 ≤ a) (ha : a ≤ 1048576) :
  laws_szValS.f k l a = some (left ((l.length : Int) + needValS l) a) := by
 unfold maxLen at hl
 unfold laws_szValS.f
 have hn := needValS_nonneg l
 rw [wrap64_id (by omega) (by omega)]
 by_cases h : a - (l.length : Int) < 0
 ·simp only [h, if_true]
  rw [left_not (by omega)]
 ·simp only [h, if_false]
  obtain ⟨k, rfl⟩ : ∃ m, k = m + 1 := ⟨k - 1, by omega⟩
  simp only [laws_szValS.j0]
  have hq := szValS_l l (by omega) hF l.length 0 k (a - (l.length : Int)) (by omega) (by omega) (by omega) (by omega)
  rw [List.drop_zero] at hq
  refine hq.trans ?_
  congr 1
  unfold left
  split <;> split <;> omega
theorem szVal (x : S25) (ho : ok25 x) : ∀ a : Int, 0 ≤ a → a ≤ 1048576 → Ev (fun k => laws_szVal.f k x.f0 x.f1 x.f2 x.f3 x.f4 a) (left (needVal x) a) := by
 induction ho with
 | mk x o0 o1 o2 o3 g3 o4 g4 ih =>
  intro a h0 ha
  obtain ⟨K, hK⟩ := all_mem x.f3 (P := fun y k => ∀ a : Int, 0 ≤ a → a ≤ ((1048576 : Nat) : Int) → laws_szVal.f k y.f0 y.f1 y.f2 y.f3 y.f4 a = some (left (needVal y) a)) (fun y hy => all_le 1048576 (fun a h0 h1 => ih y hy a h0 (by omega)))
  have hS : ∀ a : Int, 0 ≤ a → a ≤ 1048576 → Ev (fun k => @laws_szValS.f ⟨fun _ => laws_szVal.f k⟩ k x.f3 a) (left ((x.f3.length : Int) + needValS x.f3) a) := fun a h0 ha =>
   ⟨max K (x.f3.length + 2), fun k hk => @szValS_f ⟨fun _ => laws_szVal.f k⟩ x.f3 o3 (fun _ y hy a h0 ha => hK k (by omega) y hy a h0 (by omega)) k a (by omega) h0 ha⟩
  have hn3 := needValS_nonneg x.f3
  have hn4 := szL_nonneg x.f4
  unfold maxLen at o2 o4 g4
  rw [needVal_eq]
  refine Ev.succ ?_
  simp only [laws_szVal.f]
  rw [wrap64_id (by omega) (by omega)]
  by_cases h2 : a - (x.f2.size : Int) < 0
  ·simp only [h2, if_true]
   rw [left_not (by omega)]
   exact Ev.some
  simp only [h2, if_false]
  refine Ev.succ ?_
  simp only [laws_szVal.j0]
  refine Ev.bind (hS (a - (x.f2.size : Int)) (by omega) (by omega)) ?_
  by_cases h3 : (x.f3.length : Int) + needValS x.f3 ≤ a - (x.f2.size : Int)
  ·rw [left_pos h3]
   simp only [show ¬ a - (x.f2.size : Int) - ((x.f3.length : Int) + needValS x.f3) < 0 by omega, if_false]
   refine Ev.bind (szStringS x.f4 _ (by omega) (fun z hz => by have := g4 z hz; omega) (by omega) (by omega)) ?_
   by_cases h4 : szL x.f4 ≤ a - (x.f2.size : Int) - ((x.f3.length : Int) + needValS x.f3)
   ·rw [left_pos h4]
    simp only [show ¬ a - (x.f2.size : Int) - ((x.f3.length : Int) + needValS x.f3) - szL x.f4 < 0 by omega, if_false]
    refine Ev.cast Ev.some ?_
    rw [left_pos (by omega)]
    omega
   ·rw [left_not h4]
    exact Ev.cast Ev.some (left_not (by omega)).symm
  ·rw [left_not h3]
   exact Ev.cast Ev.some (left_not (by omega)).symm
/-! Copies. -/
mutual
def convVal : S25 → S30
 | ⟨a, b, s, l, ks⟩ => ⟨a, b, s, convValS l, ks⟩
def convValS : List S25 → List S30
 | [] => []
 | x :: r => convVal x :: convValS r
end
theorem convValS_map : ∀ l : List S25, convValS l = l.map convVal
 | [] => by rw [convValS]; rfl
 | x :: r => by rw [convValS, convValS_map r]; rfl
theorem convVal_eq (x : S25) : convVal x = ⟨x.f0, x.f1, x.f2, x.f3.map convVal, x.f4⟩ := by
 cases x
 rw [convVal, convValS_map]
def valT (y : S30) : Int × Int × ByteArray × List S30 × List ByteArray := (y.f0, y.f1, y.f2, y.f3, y.f4)
theorem toValS_l [laws_toVal.Rec] (l : List S25) (hl : l.length ≤ 9223372036854775807)
  (hF : ∀ k, ∀ x ∈ l, laws_toVal.Rec.f k x.f0 x.f1 x.f2 x.f3 x.f4 = some (valT (convVal x))) (d : Nat) : ∀ (i k : Nat) (y : List S30), i + d = l.length → d < k → y.length = l.length → y.take i = (l.map convVal).take i →
  laws_toValS.l0 k l y (i : Int) = some (l.map convVal) := by
 induction d with
 | zero =>
  intro i k y hi hk hy he
  obtain ⟨k, rfl⟩ : ∃ m, k = m + 1 := ⟨k - 1, by omega⟩
  have h1 : ¬ (i : Int) < (l.length : Int) := by omega
  have e : y = l.map convVal := by rwa [List.take_of_length_le (by omega), List.take_of_length_le (by simp; omega)] at he
  simp only [laws_toValS.l0, h1, if_false, e]
 | succ d ih =>
  intro i k y hi hk hy he
  obtain ⟨k, rfl⟩ : ∃ m, k = m + 1 := ⟨k - 1, by omega⟩
  have hlt : i < l.length := by omega
  have h1 : (i : Int) < (l.length : Int) := by omega
  have h1y : (i : Int) < (y.length : Int) := by omega
  have h2 : (0 : Int) ≤ (i : Int) := by omega
  have h3 := next_i hlt hl
  have hg : rd_T25 l (i : Int) = l[i] := rdD_cast _ hlt
  have hm : i < (l.map convVal).length := by simpa using hlt
  simp only [laws_toValS.l0, h1, h2, h3, if_true, hg]
  rw [hF k l[i] (List.getElem_mem hlt)]
  simp only [Option.bind_some, h1y, if_true, Int.toNat_natCast, valT]
  refine ih (i + 1) k _ (by omega) (by omega) (by simpa using hy) ?_
  have := take_set_step (l := y) (m := l.map convVal) (by omega) hm he
  rw [show (l.map convVal)[i] = convVal l[i] by simp] at this
  rw [show (⟨(convVal l[i]).f0, (convVal l[i]).f1, (convVal l[i]).f2, (convVal l[i]).f3, (convVal l[i]).f4⟩ : S30) = convVal l[i] by cases convVal l[i]; rfl]
  exact this
theorem toVal (x : S25) (ho : ok25 x) : needVal x ≤ 1048576 → Ev (fun k => laws_toVal.f k x.f0 x.f1 x.f2 x.f3 x.f4) (valT (convVal x)) := by
 induction ho with
 | mk x o0 o1 o2 o3 g3 o4 g4 ih =>
  intro hn
  rw [needVal_eq] at hn
  have hn3 := needValS_nonneg x.f3
  have hn4 := szL_nonneg x.f4
  have hn4' : (x.f4.length : Int) ≤ szL x.f4 := by unfold szL; have := szT_nonneg x.f4; omega
  obtain ⟨K, hK⟩ := all_mem x.f3 (P := fun y k => laws_toVal.f k y.f0 y.f1 y.f2 y.f3 y.f4 = some (valT (convVal y))) (fun y hy => ih y hy (by have := needVal_mem hy; omega))
  have hS : Ev (fun k => @laws_toValS.f ⟨fun _ => laws_toVal.f k⟩ k x.f3) (x.f3.map convVal) :=
   ⟨max K (x.f3.length + 1), fun k hk => by
    show @laws_toValS.f ⟨fun _ => laws_toVal.f k⟩ k x.f3 = _
    unfold laws_toValS.f
    rw [if_pos (by omega), if_pos (by omega)]
    exact @toValS_l ⟨fun _ => laws_toVal.f k⟩ x.f3 (by omega) (fun _ y hy => hK k (by omega) y hy) x.f3.length 0 k _ (by omega) (by omega) (by simp) (by simp)⟩
  refine Ev.succ ?_
  simp only [laws_toVal.f]
  refine Ev.bind hS (Ev.bind (toStringS x.f4 (by omega)) ?_)
  rw [convVal_eq]
  exact Ev.some
/-! Comparisons. -/
inductive fitVal : S30 → Prop
 | mk (y : S30) (h3 : y.f3.length ≤ 9223372036854775807) (g3 : ∀ z ∈ y.f3, fitVal z) (h4 : y.f4.length ≤ 9223372036854775807) (g4 : ∀ z ∈ y.f4, z.size ≤ 9223372036854775807) (h2 : y.f2.size ≤ 9223372036854775807) : fitVal y
theorem fit_convVal (x : S25) (ho : ok25 x) : fitVal (convVal x) := by
 induction ho with
 | mk x o0 o1 o2 o3 g3 o4 g4 ih =>
  unfold maxLen at o2 o3 o4 g4
  rw [convVal_eq]
  refine fitVal.mk _ (by simp only [List.length_map]; omega) (fun z hz => ?_) (by show x.f4.length ≤ _; omega) (fun z hz => by have := g4 z hz; omega) (by show x.f2.size ≤ _; omega)
  obtain ⟨y, hy, rfl⟩ := List.mem_map.1 hz
  exact ih y hy
theorem eqValS_l [laws_eqVal.Rec] (l : List S30) (hl : l.length ≤ 9223372036854775807)
  (hF : ∀ k, ∀ x ∈ l, laws_eqVal.Rec.f k x.f0 x.f1 x.f2 x.f3 x.f4 x.f0 x.f1 x.f2 x.f3 x.f4 = some true) (d : Nat) : ∀ (i k : Nat), i + d = l.length → d < k →
  laws_eqValS.l0 k l l (i : Int) = some true := by
 induction d with
 | zero =>
  intro i k hi hk
  obtain ⟨k, rfl⟩ : ∃ m, k = m + 1 := ⟨k - 1, by omega⟩
  have h1 : ¬ (i : Int) < (l.length : Int) := by omega
  simp only [laws_eqValS.l0, h1, if_false]
 | succ d ih =>
  intro i k hi hk
  obtain ⟨k, rfl⟩ : ∃ m, k = m + 1 := ⟨k - 1, by omega⟩
  have hlt : i < l.length := by omega
  have h1 : (i : Int) < (l.length : Int) := by omega
  have h2 : (0 : Int) ≤ (i : Int) := by omega
  have h3 := next_i hlt hl
  have hg : rd_T30 l (i : Int) = l[i] := rdD_cast _ hlt
  simp only [laws_eqValS.l0, h1, h2, h3, if_true, hg]
  rw [hF k l[i] (List.getElem_mem hlt)]
  simp only [Option.bind_some, if_true]
  exact ih (i + 1) k (by omega) (by omega)
theorem eqVal (y : S30) (hf : fitVal y) : Ev (fun k => laws_eqVal.f k y.f0 y.f1 y.f2 y.f3 y.f4 y.f0 y.f1 y.f2 y.f3 y.f4) true := by
 induction hf with
 | mk y o3 g3 o4 g4 o2 ih =>
  obtain ⟨K, hK⟩ := all_mem y.f3 (P := fun y k => laws_eqVal.f k y.f0 y.f1 y.f2 y.f3 y.f4 y.f0 y.f1 y.f2 y.f3 y.f4 = some true) (fun z hz => by obtain ⟨K, h⟩ := ih z hz; exact ⟨K, h⟩)
  have hS : Ev (fun k => @laws_eqValS.f ⟨fun _ => laws_eqVal.f k⟩ k y.f3 y.f3) true :=
   ⟨max K (y.f3.length + 2), fun k hk => by
    show @laws_eqValS.f ⟨fun _ => laws_eqVal.f k⟩ k y.f3 y.f3 = _
    unfold laws_eqValS.f
    rw [if_pos rfl]
    obtain ⟨m, rfl⟩ : ∃ m, k = m + 1 := ⟨k - 1, by omega⟩
    simp only [laws_eqValS.j0]
    exact @eqValS_l ⟨fun _ => laws_eqVal.f (m + 1)⟩ y.f3 o3 (fun _ z hz => hK (m + 1) (by omega) z hz) y.f3.length 0 m (by omega) (by omega)⟩
  refine Ev.succ ?_
  simp only [laws_eqVal.f, if_true]
  refine Ev.succ ?_
  simp only [laws_eqVal.j0, if_true]
  refine Ev.succ ?_
  simp only [laws_eqVal.j1, if_true]
  refine Ev.succ ?_
  simp only [laws_eqVal.j2]
  refine Ev.bind hS ?_
  simp only [if_true]
  refine Ev.bind (eqStringS y.f4 y.f4 o4) ?_
  simp only [decide_true, if_true]
  exact Ev.some
def inB (x a b : Int) : Bool := decide (a ≤ x) && decide (x ≤ b)
theorem in_f (a b c : Int) : spec_l1In.f a b c = some (inB a b c) := by
 unfold spec_l1In.f inB
 by_cases h : b ≤ a <;> simp [h]
theorem inRange_f (a b c : Int) : impl_inRange.f a b c = some (inB a b c) := by
 unfold impl_inRange.f inB
 by_cases h : b ≤ a <;> simp [h]
def vB (x : Int) : Bool := inB x 32 126 || (decide (x = 9) || decide (x = 10))
def textB (s : ByteArray) : Bool := (bs s).all vB && decide ((s.size : Int) ≤ 60)
theorem spec_text_l (s : ByteArray) (hs : s.size ≤ 9223372036854775807) (d : Nat) : ∀ i : Nat, i + d = s.size → Ev (fun k => spec_l2Text.l0 k s (i : Int)) (((bs s).drop i).all vB && decide ((s.size : Int) ≤ 60)) := by
 induction d with
 | zero =>
  intro i hi
  have h1 : ¬ (i : Int) < (s.size : Int) := by omega
  refine Ev.succ ?_
  simp only [spec_l2Text.l0, h1, if_false, bs_end (show s.size ≤ i by omega), List.all_nil, Bool.true_and]
  exact Ev.some
 | succ d ih =>
  intro i hi
  have h1 : (i : Int) < (s.size : Int) := by omega
  have h2 : (0 : Int) ≤ (i : Int) := by omega
  have h3 := next_i (show i < s.size by omega) hs
  have ih' := ih (i + 1) (by omega)
  have hr := bt_range s i
  refine Ev.succ ?_
  rw [bs_drop (by omega), List.all_cons]
  simp only [spec_l2Text.l0, h1, h2, h3, if_true, wrap64_id (show -9223372036854775808 ≤ bt s (i : Int) by omega) (show bt s (i : Int) ≤ 9223372036854775807 by omega), in_f, Option.bind_some, vB]
  cases hq : inB (bt s (i : Int)) 32 126 with
  | true => simpa using ih'
  | false =>
   by_cases h9 : bt s (i : Int) = 9
   ·simpa [h9] using ih'
   ·by_cases h10 : bt s (i : Int) = 10
    ·simpa [h10] using ih'
    ·simpa [h9, h10] using Ev.some
theorem spec_text (s : ByteArray) (hs : s.size ≤ 9223372036854775807) : Ev (fun k => spec_l2Text.f k s) (textB s) := spec_text_l s hs s.size 0 (by omega)
theorem impl_vbyte (x : Int) : impl_isVByte.f x = some (vB x) := by
 unfold impl_isVByte.f impl_isPlain.f vB inB
 by_cases h : 32 ≤ x
 ·by_cases h' : x ≤ 126
  ·simp [h, h']
  ·have h9 : ¬ x = 9 := by omega
   have h10 : ¬ x = 10 := by omega
   simp [h, h', h9, h10]
 ·by_cases h10 : x = 10
  ·simp [h10]
  ·by_cases h9 : x = 9
   ·simp [h9]
   ·simp [h, h9, h10]
theorem impl_text_l (s : ByteArray) (hs : s.size ≤ 9223372036854775807) (d : Nat) : ∀ i : Nat, i + d = s.size → Ev (fun k => impl_vTextOk.l0 k s (i : Int)) (((bs s).drop i).all vB && decide ((s.size : Int) ≤ 60)) := by
 induction d with
 | zero =>
  intro i hi
  have h1 : ¬ (i : Int) < (s.size : Int) := by omega
  refine Ev.succ ?_
  simp only [impl_vTextOk.l0, h1, if_false, bs_end (show s.size ≤ i by omega), List.all_nil, Bool.true_and]
  exact Ev.some
 | succ d ih =>
  intro i hi
  have h1 : (i : Int) < (s.size : Int) := by omega
  have h2 : (0 : Int) ≤ (i : Int) := by omega
  have h3 := next_i (show i < s.size by omega) hs
  have ih' := ih (i + 1) (by omega)
  refine Ev.succ ?_
  rw [bs_drop (by omega), List.all_cons]
  simp only [impl_vTextOk.l0, h1, h2, h3, if_true, impl_vbyte, Option.bind_some]
  cases hq : vB (bt s (i : Int)) with
  | true => simpa using ih'
  | false => simpa using Ev.some
theorem impl_text (s : ByteArray) (hs : s.size ≤ 9223372036854775807) : Ev (fun k => impl_vTextOk.f k s) (textB s) := impl_text_l s hs s.size 0 (by omega)
def blB (a b : ByteArray) : Bool := Op.bytesLess a.toList b.toList
def asc : List ByteArray → Bool
 | [] => true
 | [_] => true
 | x :: y :: r => blB x y && asc (y :: r)
theorem asc_at {l : List ByteArray} {j : Nat} (h : j + 1 < l.length) : asc (l.drop j) = (blB l[j] l[j + 1] && asc (l.drop (j + 1))) := by
 rw [drop_get (show j < l.length by omega), drop_get h, asc]
theorem asc_end {l : List ByteArray} {j : Nat} (h : l.length ≤ j + 1) : asc (l.drop j) = true := by
 by_cases hj : j < l.length
 ·rw [drop_get hj, List.drop_eq_nil_of_le h, asc]
 ·rw [List.drop_eq_nil_of_le (by omega), asc]
theorem impl_asc_l (l : List ByteArray) (hl : l.length ≤ 9223372036854775807) (d : Nat) : ∀ j : Nat, l.length ≤ j + 1 + d → Ev (fun k => impl_isAscending.l0 k l ((j + 1 : Nat) : Int)) (asc (l.drop j)) := by
 induction d with
 | zero =>
  intro j hj
  refine Ev.succ ?_
  simp only [impl_isAscending.l0, show ¬ ((j + 1 : Nat) : Int) < (l.length : Int) by omega, if_false]
  exact Ev.cast Ev.some (asc_end (by omega)).symm
 | succ d ih =>
  intro j hj
  refine Ev.succ ?_
  by_cases h : j + 1 < l.length
  ·have hw : wrap64 (((j + 1 : Nat) : Int) - 1) = (j : Int) := by rw [wrap64_id (by omega) (by omega)]; omega
   simp only [impl_isAscending.l0, show ((j + 1 : Nat) : Int) < (l.length : Int) by omega, hw, show (0 : Int) ≤ ((j + 1 : Nat) : Int) by omega, show (0 : Int) ≤ (j : Int) by omega, show (j : Int) < (l.length : Int) by omega, if_true, rdOf_cast _ h, rdOf_cast _ (show j < l.length by omega), next_i h hl]
   rw [asc_at h, show Op.bytesLess l[j].toList l[j + 1].toList = blB l[j] l[j + 1] from rfl]
   cases blB l[j] l[j + 1] with
   | true => simpa using ih (j + 1) (by omega)
   | false => simpa using Ev.some
  ·simp only [impl_isAscending.l0, show ¬ ((j + 1 : Nat) : Int) < (l.length : Int) by omega, if_false]
   exact Ev.cast Ev.some (asc_end (by omega)).symm
theorem impl_asc (l : List ByteArray) (hl : l.length ≤ 9223372036854775807) : Ev (fun k => impl_isAscending.f k l) (asc l) := impl_asc_l l hl l.length 0 (by omega)
theorem impl_none_l (l : List ByteArray) (hl : l.length ≤ 9223372036854775807) (hs : ∀ z ∈ l, z.size ≤ 9223372036854775807) (d : Nat) : ∀ i : Nat, i + d = l.length →
  ∃ r, Ev (fun k => slices_IndexFunc_string_string.l0 k l (l.length : Int) (i : Int)) r ∧ decide (r ≥ 0) = !((l.drop i).all textB) := by
 induction d with
 | zero =>
  intro i hi
  refine ⟨-1, ?_, ?_⟩
  ·refine Ev.succ ?_
   simp only [slices_IndexFunc_string_string.l0, show ¬ (i : Int) < (l.length : Int) by omega, if_false]
   exact Ev.some
  ·rw [List.drop_eq_nil_of_le (by omega)]; rfl
 | succ d ih =>
  intro i hi
  have hlt : i < l.length := by omega
  have h1 : (i : Int) < (l.length : Int) := by omega
  have h2 : (0 : Int) ≤ (i : Int) := by omega
  have h3 := next_i hlt hl
  obtain ⟨r, hr, hr'⟩ := ih (i + 1) (by omega)
  have ht := impl_text l[i] (hs _ (List.getElem_mem hlt))
  rw [drop_get hlt, List.all_cons]
  cases hq : textB l[i] with
  | true =>
   rw [hq] at ht
   refine ⟨r, ?_, by simpa using hr'⟩
   refine Ev.succ ?_
   simp only [slices_IndexFunc_string_string.l0, h1, h2, h3, if_true, rdOf_cast _ hlt, impl_isNoVText.f]
   refine Ev.bind (Ev.bind ht Ev.some) ?_
   simpa using hr
  | false =>
   rw [hq] at ht
   refine ⟨(i : Int), ?_, by simp⟩
   refine Ev.succ ?_
   simp only [slices_IndexFunc_string_string.l0, h1, h2, h3, if_true, rdOf_cast _ hlt, impl_isNoVText.f]
   refine Ev.bind (Ev.bind ht Ev.some) ?_
   simpa using Ev.some
theorem impl_none (l : List ByteArray) (hl : l.length ≤ 9223372036854775807) (hs : ∀ z ∈ l, z.size ≤ 9223372036854775807) : Ev (fun k => slices_ContainsFunc_string_string.f k l) (!(l.all textB)) := by
 obtain ⟨r, hr, hr'⟩ := impl_none_l l hl hs l.length 0 (by omega)
 unfold slices_ContainsFunc_string_string.f slices_IndexFunc_string_string.f
 refine Ev.bind hr (Ev.cast Ev.some ?_)
 simpa using hr'
def listsB (x : S30) : Bool := decide (x.f3.length = 0) && decide (x.f4.length = 0)
def hereB (x : S30) : Bool :=
 if x.f0 = 0 then listsB x && (decide (x.f1 = 0) && decide (x.f2.size = 0))
 else if x.f0 = 1 then listsB x && (inB x.f1 0 1 && decide (x.f2.size = 0))
 else if x.f0 = 2 then listsB x && (inB x.f1 (-999999) 999999 && decide (x.f2.size = 0))
 else if x.f0 = 3 then listsB x && (decide (x.f1 = 0) && textB x.f2)
 else if x.f0 = 4 then decide (x.f1 = 0) && (decide (x.f2.size = 0) && decide (x.f4.length = 0))
 else if x.f0 = 5 then decide (x.f1 = 0) && (decide (x.f2.size = 0) && (decide (x.f4.length = x.f3.length) && (asc x.f4 && x.f4.all textB)))
 else false
theorem size_nil (s : ByteArray) : s.toList = ([] : List UInt8) ↔ s.size = 0 := by
 rw [toList_data]
 constructor
 ·intro h
  have := congrArg List.length h
  simpa using this
 ·intro h
  apply List.eq_nil_of_length_eq_zero
  simpa using h
theorem beq_nil (s : ByteArray) : (s.toList == ([] : List UInt8)) = decide (s.size = 0) := by
 rw [Bool.eq_iff_iff, beq_iff_eq, decide_eq_true_iff, size_nil]
theorem len_zero (n : Nat) : ((n : Int) == 0) = decide (n = 0) := by
 rw [Bool.eq_iff_iff, beq_iff_eq, decide_eq_true_iff]
 omega
theorem impl_here (x : S30) (h2 : x.f2.size ≤ 9223372036854775807) (h4 : x.f4.length ≤ 9223372036854775807) (g4 : ∀ z ∈ x.f4, z.size ≤ 9223372036854775807) :
  Ev (fun k => impl_Val_plainOk.f k x.f0 x.f1 x.f2 x.f3 x.f4) (hereB x) := by
 have ht := impl_text x.f2 h2
 have ha := impl_asc x.f4 h4
 have hn := impl_none x.f4 h4 g4
 have hj : ∀ b : Bool, b = listsB x → Ev (fun k => impl_Val_plainOk.j0 k b x.f0 x.f1 x.f2 x.f3 x.f4) (hereB x) := by
  intro b hb
  refine Ev.succ ?_
  simp only [impl_Val_plainOk.j0, hb, beq_nil, len_zero, size_nil, inRange_f, Option.bind_some, hereB]
  by_cases k0 : x.f0 = 0
  ·simp only [k0, if_true]
   cases listsB x <;> by_cases e1 : x.f1 = 0 <;> simpa [e1] using Ev.some
  by_cases k1 : x.f0 = 1
  ·simp only [k1, if_true, show ¬ (1 : Int) = 0 by omega, if_false]
   cases listsB x <;> cases inB x.f1 0 1 <;> simpa using Ev.some
  by_cases k2 : x.f0 = 2
  ·simp only [k2, if_true, show ¬ (2 : Int) = 0 by omega, show ¬ (2 : Int) = 1 by omega, if_false]
   cases listsB x <;> cases inB x.f1 (-999999) 999999 <;> simpa using Ev.some
  by_cases k3 : x.f0 = 3
  ·simp only [k3, if_true, show ¬ (3 : Int) = 0 by omega, show ¬ (3 : Int) = 1 by omega, show ¬ (3 : Int) = 2 by omega, if_false]
   cases listsB x
   ·simpa using Ev.some
   ·by_cases e1 : x.f1 = 0
    ·simp only [e1, if_true, decide_true, Bool.true_and]
     exact Ev.bind ht Ev.some
    ·simpa [e1] using Ev.some
  by_cases k4 : x.f0 = 4
  ·simp only [k4, if_true, show ¬ (4 : Int) = 0 by omega, show ¬ (4 : Int) = 1 by omega, show ¬ (4 : Int) = 2 by omega, show ¬ (4 : Int) = 3 by omega, if_false]
   by_cases e1 : x.f1 = 0 <;> by_cases e2 : x.f2.size = 0 <;> simpa [e1, e2] using Ev.some
  by_cases k5 : x.f0 = 5
  ·simp only [k5, if_true, show ¬ (5 : Int) = 0 by omega, show ¬ (5 : Int) = 1 by omega, show ¬ (5 : Int) = 2 by omega, show ¬ (5 : Int) = 3 by omega, show ¬ (5 : Int) = 4 by omega, if_false]
   by_cases e1 : x.f1 = 0
   case neg => simpa [e1] using Ev.some
   by_cases e2 : x.f2.size = 0
   case neg => simpa [e1, e2] using Ev.some
   by_cases e3 : x.f4.length = x.f3.length
   case neg => simpa [e1, e2, e3, show ¬ (x.f4.length : Int) = (x.f3.length : Int) by omega] using Ev.some
   simp only [e1, e2, e3, if_true, decide_true, Bool.true_and]
   refine Ev.bind ha ?_
   cases asc x.f4 with
   | false => simpa using Ev.some
   | true =>
    simp only [if_true, Bool.true_and]
    refine Ev.bind hn (Ev.cast Ev.some ?_)
    simp
  ·simp only [k0, k1, k2, k3, k4, k5, if_false]
   exact Ev.some
 unfold impl_Val_plainOk.f
 by_cases e3 : x.f3.length = 0
 ·simp only [show (x.f3.length : Int) = 0 by omega, if_true]
  exact hj _ (by rw [len_zero]; simp [listsB, e3])
 ·simp only [show ¬ (x.f3.length : Int) = 0 by omega, if_false]
  exact hj _ (by simp [listsB, e3])
def keysB (x : S30) (i : Nat) : Bool := ((x.f4.drop i).all textB && (if i = 0 then asc x.f4 else asc (x.f4.drop (i - 1)))) && (decide (x.f1 = 0) && decide (x.f4.length = x.f3.length))
theorem spec_keys (x : S30) (h4 : x.f4.length ≤ 9223372036854775807) (g4 : ∀ z ∈ x.f4, z.size ≤ 9223372036854775807) (d : Nat) : ∀ i : Nat, i + d = x.f4.length → Ev (fun k => spec_l2Here.l0 k (i : Int) x.f0 x.f1 x.f2 x.f3 x.f4) (keysB x i) := by
 induction d with
 | zero =>
  intro i hi
  refine Ev.succ ?_
  have hk : keysB x i = (decide (x.f1 = 0) && decide (x.f4.length = x.f3.length)) := by
   unfold keysB
   rw [List.drop_eq_nil_of_le (show x.f4.length ≤ i by omega)]
   by_cases h0 : i = 0
   ·have : x.f4 = [] := List.eq_nil_of_length_eq_zero (by omega)
    simp [h0, this, asc]
   ·rw [if_neg h0, asc_end (by omega)]
    simp
  rw [hk]
  simp only [spec_l2Here.l0, show ¬ (i : Int) < (x.f4.length : Int) by omega, if_false]
  by_cases e1 : x.f1 = 0
  ·simp only [e1, if_true, decide_true, Bool.true_and]
   refine Ev.cast Ev.some ?_
   rw [Bool.eq_iff_iff, beq_iff_eq, decide_eq_true_iff]
   omega
  ·simpa [e1] using Ev.some
 | succ d ih =>
  intro i hi
  have hlt : i < x.f4.length := by omega
  have h1 : (i : Int) < (x.f4.length : Int) := by omega
  have h2 : (0 : Int) ≤ (i : Int) := by omega
  have h3 := next_i hlt h4
  have ih' := ih (i + 1) (by omega)
  refine Ev.succ ?_
  simp only [spec_l2Here.l0, h1, h2, h3, if_true, rdOf_cast _ hlt]
  refine Ev.bind (spec_text _ (g4 _ (List.getElem_mem hlt))) ?_
  have hk : keysB x i = (textB x.f4[i] && ((if i = 0 then true else blB (x.f4.getD (i - 1) ByteArray.empty) x.f4[i]) && keysB x (i + 1))) := by
   unfold keysB
   rw [drop_get hlt, List.all_cons, if_neg (show ¬ i + 1 = 0 by omega), show i + 1 - 1 = i by omega]
   by_cases h0 : i = 0
   ·subst h0
    simp only [if_true, List.drop_zero, Bool.true_and]
    cases textB x.f4[0] <;> simp
   ·rw [if_neg h0, if_neg h0]
    obtain ⟨j, rfl⟩ : ∃ j, i = j + 1 := ⟨i - 1, by omega⟩
    rw [show j + 1 - 1 = j by omega, asc_at hlt, List.getD_eq_getElem?_getD, List.getElem?_eq_getElem (show j < x.f4.length by omega), Option.getD_some]
    cases textB x.f4[j + 1] <;> cases blB x.f4[j] x.f4[j + 1] <;> simp
  rw [hk]
  cases textB x.f4[i] with
  | false => simpa using Ev.some
  | true =>
   simp only [if_true, Bool.true_and]
   by_cases h0 : i = 0
   ·simp only [show ¬ (i : Int) > 0 by omega, if_false, h0, if_true, Bool.true_and]
    rw [h0] at ih'
    exact ih'
   ·have hw : wrap64 ((i : Int) - 1) = ((i - 1 : Nat) : Int) := by rw [wrap64_id (by omega) (by omega)]; omega
    have hlt' : i - 1 < x.f4.length := by omega
    rw [List.getD_eq_getElem?_getD, List.getElem?_eq_getElem hlt', Option.getD_some]
    simp only [show (i : Int) > 0 by omega, if_true, hw, show (0 : Int) ≤ ((i - 1 : Nat) : Int) by omega, show ((i - 1 : Nat) : Int) < (x.f4.length : Int) by omega, rdOf_cast _ hlt', h0, if_false]
    rw [show Op.bytesLess x.f4[i - 1].toList x.f4[i].toList = blB x.f4[i - 1] x.f4[i] from rfl]
    cases blB x.f4[i - 1] x.f4[i] with
    | true => simpa using ih'
    | false => simpa using Ev.some
theorem spec_here (x : S30) (h2 : x.f2.size ≤ 9223372036854775807) (h4 : x.f4.length ≤ 9223372036854775807) (g4 : ∀ z ∈ x.f4, z.size ≤ 9223372036854775807) :
  Ev (fun k => spec_l2Here.f k x.f0 x.f1 x.f2 x.f3 x.f4) (hereB x) := by
 have ht := spec_text x.f2 h2
 have t0 : x.f2.size = 0 → textB x.f2 = true := by
  intro h
  have hb : bs x.f2 = [] := List.eq_nil_of_length_eq_zero (by rw [bs_length]; exact h)
  simp [textB, hb, h]
 have hk := spec_keys x h4 g4 x.f4.length 0 (by omega)
 have fail : hereB x = false → Ev (fun k => spec_l2Here.j0 k true x.f0 x.f1 x.f2 x.f3 x.f4) (hereB x) := by
  intro h
  rw [h]
  refine Ev.succ ?_
  simp only [spec_l2Here.j0, if_true]
  exact Ev.some
 have go : ((x.f0 = 3 ∨ x.f2.size = 0) ∧ (x.f0 = 5 ∨ x.f4.length = 0) ∧ (x.f0 = 5 ∨ x.f0 = 4 ∨ x.f3.length = 0)) → Ev (fun k => spec_l2Here.j0 k false x.f0 x.f1 x.f2 x.f3 x.f4) (hereB x) := by
  rintro ⟨q1, q2, q3⟩
  refine Ev.succ ?_
  simp only [spec_l2Here.j0, Bool.false_eq_true, if_false]
  refine Ev.succ ?_
  simp only [spec_l2Here.j1]
  by_cases k0 : x.f0 = 0
  ·simp only [k0, if_true]
   refine Ev.succ ?_
   simp only [spec_l2Here.j2, beq_self_eq_true, if_true]
   have e2 : x.f2.size = 0 := by omega
   have e3 : x.f3.length = 0 := by omega
   have e4 : x.f4.length = 0 := by omega
   have hh : hereB x = decide (x.f1 = 0) := by simp only [hereB, k0, if_true, listsB, e2, e3, e4, decide_true, Bool.true_and, Bool.and_true]
   rw [hh]
   by_cases e1 : x.f1 = 0
   ·simp only [e1, if_true, decide_true]
    rw [t0 e2] at ht
    exact Ev.bind ht Ev.some
   ·simpa [e1] using Ev.some
  by_cases k3 : x.f0 = 3
  ·simp only [k3, if_true, show ¬ (3 : Int) = 0 by omega, if_false]
   refine Ev.succ ?_
   simp only [spec_l2Here.j2, beq_self_eq_true, if_true]
   have e3 : x.f3.length = 0 := by omega
   have e4 : x.f4.length = 0 := by omega
   have hh : hereB x = (decide (x.f1 = 0) && textB x.f2) := by simp only [hereB, k3, if_true, listsB, e3, e4, decide_true, Bool.true_and, Bool.and_true, show ¬ (3 : Int) = 0 by omega, show ¬ (3 : Int) = 1 by omega, show ¬ (3 : Int) = 2 by omega, if_false]
   rw [hh]
   by_cases e1 : x.f1 = 0
   ·simp only [e1, if_true, decide_true, Bool.true_and]
    exact Ev.bind ht Ev.some
   ·simpa [e1] using Ev.some
  simp only [k0, k3, if_false]
  refine Ev.succ ?_
  by_cases k4 : x.f0 = 4
  ·simp only [k4, spec_l2Here.j2, beq_self_eq_true, if_true]
   have e2 : x.f2.size = 0 := by omega
   have e4 : x.f4.length = 0 := by omega
   have hh : hereB x = decide (x.f1 = 0) := by simp only [hereB, k4, if_true, e2, e4, decide_true, Bool.true_and, Bool.and_true, show ¬ (4 : Int) = 0 by omega, show ¬ (4 : Int) = 1 by omega, show ¬ (4 : Int) = 2 by omega, show ¬ (4 : Int) = 3 by omega, if_false]
   rw [hh]
   by_cases e1 : x.f1 = 0
   ·simp only [e1, if_true, decide_true]
    rw [t0 e2] at ht
    exact Ev.bind ht Ev.some
   ·simpa [e1] using Ev.some
  have b4 : (x.f0 == 4) = false := by simpa using k4
  simp only [spec_l2Here.j2, b4, Bool.false_eq_true, if_false, in_f, Option.bind_some]
  have e2 : x.f2.size = 0 := by omega
  by_cases k1 : x.f0 = 1
  ·have e3 : x.f3.length = 0 := by omega
   have e4 : x.f4.length = 0 := by omega
   simp only [hereB, k1, if_true, listsB, e2, e3, e4, decide_true, Bool.true_and, Bool.and_true, show ¬ (1 : Int) = 0 by omega, if_false]
   exact Ev.some
  by_cases k2 : x.f0 = 2
  ·have e3 : x.f3.length = 0 := by omega
   have e4 : x.f4.length = 0 := by omega
   simp only [hereB, k2, if_true, listsB, e2, e3, e4, decide_true, Bool.true_and, Bool.and_true, show ¬ (2 : Int) = 0 by omega, show ¬ (2 : Int) = 1 by omega, if_false]
   exact Ev.some
  by_cases k5 : x.f0 = 5
  ·have hh : hereB x = keysB x 0 := by
    simp only [hereB, keysB, k5, if_true, e2, decide_true, Bool.true_and, show ¬ (5 : Int) = 0 by omega, show ¬ (5 : Int) = 1 by omega, show ¬ (5 : Int) = 2 by omega, show ¬ (5 : Int) = 3 by omega, show ¬ (5 : Int) = 4 by omega, if_false, List.drop_zero]
    cases decide (x.f1 = 0) <;> cases decide (x.f4.length = x.f3.length) <;> cases asc x.f4 <;> cases x.f4.all textB <;> rfl
   rw [hh]
   simp only [k5, show ¬ (5 : Int) = 1 by omega, show ¬ (5 : Int) = 2 by omega, if_true, if_false]
   rw [k5] at hk
   exact hk
  ·have hh : hereB x = false := by simp only [hereB, k0, k1, k2, k3, k4, k5, if_false]
   rw [hh]
   simp only [k1, k2, k5, if_false]
   exact Ev.some
 have bad : ¬ ((x.f0 = 3 ∨ x.f2.size = 0) ∧ (x.f0 = 5 ∨ x.f4.length = 0) ∧ (x.f0 = 5 ∨ x.f0 = 4 ∨ x.f3.length = 0)) → hereB x = false := by
  intro h
  unfold hereB listsB
  by_cases k0 : x.f0 = 0
  ·simp only [k0, if_true]; simp only [k0] at h; by_cases a : x.f2.size = 0 <;> by_cases b : x.f3.length = 0 <;> by_cases c : x.f4.length = 0 <;> simp [a, b, c] at h ⊢
  by_cases k1 : x.f0 = 1
  ·simp only [k1] at h ⊢; by_cases a : x.f2.size = 0 <;> by_cases b : x.f3.length = 0 <;> by_cases c : x.f4.length = 0 <;> simp [a, b, c] at h ⊢
  by_cases k2 : x.f0 = 2
  ·simp only [k2] at h ⊢; by_cases a : x.f2.size = 0 <;> by_cases b : x.f3.length = 0 <;> by_cases c : x.f4.length = 0 <;> simp [a, b, c] at h ⊢
  by_cases k3 : x.f0 = 3
  ·simp only [k3] at h ⊢; by_cases b : x.f3.length = 0 <;> by_cases c : x.f4.length = 0 <;> simp [b, c] at h ⊢
  by_cases k4 : x.f0 = 4
  ·simp only [k4] at h ⊢; by_cases a : x.f2.size = 0 <;> by_cases c : x.f4.length = 0 <;> simp [a, c] at h ⊢
  by_cases k5 : x.f0 = 5
  ·simp only [k5] at h ⊢; by_cases a : x.f2.size = 0 <;> simp [a] at h ⊢
  ·simp only [k0, k1, k2, k3, k4, k5, if_false]
 have all : ∀ b : Bool, (b = true ↔ ¬ ((x.f0 = 3 ∨ x.f2.size = 0) ∧ (x.f0 = 5 ∨ x.f4.length = 0) ∧ (x.f0 = 5 ∨ x.f0 = 4 ∨ x.f3.length = 0))) → Ev (fun k => spec_l2Here.j0 k b x.f0 x.f1 x.f2 x.f3 x.f4) (hereB x) := by
  intro b hb
  cases b with
  | true => exact fail (bad (hb.1 rfl))
  | false => exact go (Classical.byContradiction fun h => by have := hb.2 h; cases this)
 unfold spec_l2Here.f
 simp only [size_nil]
 by_cases k3 : x.f0 = 3
 ·simp only [k3, if_true, show ¬ (3 : Int) = 5 by omega, show ¬ (3 : Int) = 4 by omega, if_false]
  rw [k3] at all
  by_cases c : (x.f4.length : Int) > 0
  ·simp only [c, if_true]; exact all _ (by first | exact ⟨fun _ => by omega, fun _ => rfl⟩ | exact ⟨fun h => (Bool.false_ne_true h).elim, fun h => absurd (by omega) h⟩ | (rw [decide_eq_true_iff]; constructor <;> intro h <;> omega))
  ·simp only [c, if_false]; exact all _ (by first | exact ⟨fun _ => by omega, fun _ => rfl⟩ | exact ⟨fun h => (Bool.false_ne_true h).elim, fun h => absurd (by omega) h⟩ | (rw [decide_eq_true_iff]; constructor <;> intro h <;> omega))
 ·simp only [k3, if_false]
  by_cases a : x.f2.size = 0
  ·simp only [a, if_true]
   by_cases k5 : x.f0 = 5
   ·simp only [k5, if_true]
    rw [k5] at all
    exact all _ (by first | exact ⟨fun _ => by omega, fun _ => rfl⟩ | exact ⟨fun h => (Bool.false_ne_true h).elim, fun h => absurd (by omega) h⟩ | (rw [decide_eq_true_iff]; constructor <;> intro h <;> omega))
   ·simp only [k5, if_false]
    by_cases c : (x.f4.length : Int) > 0
    ·simp only [c, if_true]; exact all _ (by first | exact ⟨fun _ => by omega, fun _ => rfl⟩ | exact ⟨fun h => (Bool.false_ne_true h).elim, fun h => absurd (by omega) h⟩ | (rw [decide_eq_true_iff]; constructor <;> intro h <;> omega))
    ·simp only [c, if_false]
     by_cases k4 : x.f0 = 4
     ·simp only [k4, if_true]
      rw [k4] at all
      exact all _ (by first | exact ⟨fun _ => by omega, fun _ => rfl⟩ | exact ⟨fun h => (Bool.false_ne_true h).elim, fun h => absurd (by omega) h⟩ | (rw [decide_eq_true_iff]; constructor <;> intro h <;> omega))
     ·simp only [k4, if_false]
      exact all _ (by first | exact ⟨fun _ => by omega, fun _ => rfl⟩ | exact ⟨fun h => (Bool.false_ne_true h).elim, fun h => absurd (by omega) h⟩ | (rw [decide_eq_true_iff]; constructor <;> intro h <;> omega))
  ·simp only [a, if_false]
   exact all _ (by first | exact ⟨fun _ => by omega, fun _ => rfl⟩ | exact ⟨fun h => (Bool.false_ne_true h).elim, fun h => absurd (by omega) h⟩ | (rw [decide_eq_true_iff]; constructor <;> intro h <;> omega))
def cmB (deep c m : Int) : Prop := (c = m ∧ 1 ≤ c ∧ c ≤ 80) ∨ (80 < c ∧ c ≤ 100 + 80 * (7 - deep) ∧ m = 81)
theorem count_end (x : S30) (deep c : Int) (j : Nat) (h : 80 < c) : Ev (fun k => spec_l2Count.l0 k deep c (j : Int) x.f0 x.f1 x.f2 x.f3 x.f4) c := by
 refine Ev.succ ?_
 simp only [spec_l2Count.l0, show ¬ c ≤ 80 by omega, if_false]
 by_cases h1 : (j : Int) < (x.f3.length : Int)
 ·simp only [h1, if_true]
  exact Ev.some
 ·simp only [h1, if_false]
  exact Ev.some
theorem count_l (x : S30) (hl : x.f3.length ≤ 9223372036854775807) (deep : Int) (d1 : 1 ≤ deep) (d6 : deep ≤ 6)
  (ih : ∀ z ∈ x.f3, ∃ c m, Ev (fun k => spec_l2Count.f k z.f0 z.f1 z.f2 z.f3 z.f4 (deep + 1)) c ∧ Ev (fun k => impl_Val_measure.f k z.f0 z.f1 z.f2 z.f3 z.f4 (deep + 1)) m ∧ cmB (deep + 1) c m) (d : Nat) : ∀ (i : Nat) (n : Int), i + d = x.f3.length → 1 ≤ n → n ≤ 80 →
  ∃ c m, Ev (fun k => spec_l2Count.l0 k deep n (i : Int) x.f0 x.f1 x.f2 x.f3 x.f4) c ∧ Ev (fun k => impl_Val_measure.l0 k deep n x.f3 (x.f3.length : Int) (i : Int)) m ∧ cmB deep c m := by
 induction d with
 | zero =>
  intro i n hi n1 n80
  have h1 : ¬ (i : Int) < (x.f3.length : Int) := by omega
  refine ⟨n, n, ?_, ?_, .inl ⟨rfl, n1, n80⟩⟩
  ·refine Ev.succ ?_
   simp only [spec_l2Count.l0, h1, if_false]
   exact Ev.some
  ·refine Ev.succ ?_
   simp only [impl_Val_measure.l0, h1, if_false]
   exact Ev.some
 | succ d ihd =>
  intro i n hi n1 n80
  have hlt : i < x.f3.length := by omega
  have h1 : (i : Int) < (x.f3.length : Int) := by omega
  have h2 : (0 : Int) ≤ (i : Int) := by omega
  have h3 := next_i hlt hl
  have hw : wrap64 (deep + 1) = deep + 1 := wrap64_id (by omega) (by omega)
  have hg : rd_T30 x.f3 (i : Int) = x.f3[i] := rdD_cast _ hlt
  obtain ⟨c', m', hc, hm, hcm⟩ := ih _ (List.getElem_mem hlt)
  have hcb : 1 ≤ c' ∧ c' ≤ 580 ∧ 1 ≤ m' ∧ m' ≤ 81 := by unfold cmB at hcm; omega
  have wc : wrap64 (n + c') = n + c' := wrap64_id (by omega) (by omega)
  have wm : wrap64 (n + m') = n + m' := wrap64_id (by omega) (by omega)
  have step : ∀ r, Ev (fun k => spec_l2Count.l0 k deep (n + c') ((i + 1 : Nat) : Int) x.f0 x.f1 x.f2 x.f3 x.f4) r → Ev (fun k => spec_l2Count.l0 k deep n (i : Int) x.f0 x.f1 x.f2 x.f3 x.f4) r := by
   intro r hr
   refine Ev.succ ?_
   simp only [spec_l2Count.l0, h1, h2, h3, n80, if_true, hg, hw]
   refine Ev.bind hc ?_
   simp only [wc]
   exact hr
  by_cases hs : n + m' > 80
  ·refine ⟨n + c', 81, step _ (count_end x deep _ (i + 1) (by unfold cmB at hcm; omega)), ?_, .inr (by unfold cmB at hcm; omega)⟩
   refine Ev.succ ?_
   simp only [impl_Val_measure.l0, h1, h2, h3, if_true, hg, hw]
   refine Ev.bind hm ?_
   simp only [wm, hs, if_true]
   exact Ev.some
  ·have e : c' = m' := by unfold cmB at hcm; omega
   subst e
   obtain ⟨c, m, hc2, hm2, hcm2⟩ := ihd (i + 1) (n + c') (by omega) (by omega) (by omega)
   refine ⟨c, m, step _ hc2, ?_, hcm2⟩
   refine Ev.succ ?_
   simp only [impl_Val_measure.l0, h1, h2, h3, if_true, hg, hw]
   refine Ev.bind hm ?_
   simp only [wm, hs, if_false]
   exact hm2
theorem count (x : S30) (hf : fitVal x) : ∀ deep : Int, 1 ≤ deep → deep ≤ 7 →
  ∃ c m, Ev (fun k => spec_l2Count.f k x.f0 x.f1 x.f2 x.f3 x.f4 deep) c ∧ Ev (fun k => impl_Val_measure.f k x.f0 x.f1 x.f2 x.f3 x.f4 deep) m ∧ cmB deep c m := by
 induction hf with
 | mk x o3 g3 o4 g4 o2 ih =>
  intro deep d1 d7
  have bad : ∀ (g : Nat → Option Int) (g' : Nat → Option Int), Ev (fun k => spec_l2Count.j0 k deep true x.f0 x.f1 x.f2 x.f3 x.f4) 100 ∧ Ev (fun k => impl_Val_measure.j0 k deep true x.f0 x.f1 x.f2 x.f3 x.f4) 81 := by
   intro _ _
   refine ⟨?_, ?_⟩
   ·refine Ev.succ ?_
    simp only [spec_l2Count.j0, if_true]
    exact Ev.some
   ·refine Ev.succ ?_
    simp only [impl_Val_measure.j0, if_true]
    exact Ev.some
  obtain ⟨b1, b2⟩ := bad (fun _ => none) (fun _ => none)
  by_cases h7 : deep > 6
  ·refine ⟨100, 81, ?_, ?_, .inr ⟨by omega, by omega, rfl⟩⟩
   ·refine Ev.succ ?_
    simp only [spec_l2Count.f, h7, if_true]
    exact b1
   ·refine Ev.succ ?_
    simp only [impl_Val_measure.f, h7, if_true]
    exact b2
  have hs := spec_here x o2 o4 g4
  have hi := impl_here x o2 o4 g4
  cases hq : hereB x with
  | false =>
   rw [hq] at hs hi
   refine ⟨100, 81, ?_, ?_, .inr ⟨by omega, by omega, rfl⟩⟩
   ·refine Ev.succ ?_
    simp only [spec_l2Count.f, h7, if_false]
    refine Ev.bind hs ?_
    simp only [Bool.not_false]
    exact b1
   ·refine Ev.succ ?_
    simp only [impl_Val_measure.f, h7, if_false]
    refine Ev.bind hi ?_
    simp only [Bool.not_false]
    exact b2
  | true =>
   rw [hq] at hs hi
   obtain ⟨c, m, hc, hm, hcm⟩ := count_l x o3 deep d1 (by omega) (fun z hz => ih z hz (deep + 1) (by omega) (by omega)) x.f3.length 0 1 (by omega) (by omega) (by omega)
   refine ⟨c, m, ?_, ?_, hcm⟩
   ·refine Ev.succ ?_
    simp only [spec_l2Count.f, h7, if_false]
    refine Ev.bind hs ?_
    simp only [Bool.not_true]
    refine Ev.succ ?_
    simp only [spec_l2Count.j0, Bool.false_eq_true, if_false]
    refine Ev.succ ?_
    simp only [spec_l2Count.j1]
    exact hc
   ·refine Ev.succ ?_
    simp only [impl_Val_measure.f, h7, if_false]
    refine Ev.bind hi ?_
    simp only [Bool.not_true]
    refine Ev.succ ?_
    simp only [impl_Val_measure.j0, Bool.false_eq_true, if_false]
    refine Ev.succ ?_
    simp only [impl_Val_measure.j1]
    exact hm
theorem valOk (x : S30) (hf : fitVal x) : ∃ b, Ev (fun k => spec_ValOk.f k x.f0 x.f1 x.f2 x.f3 x.f4) b ∧ Ev (fun k => impl_ValOk.f k x.f0 x.f1 x.f2 x.f3 x.f4) b := by
 obtain ⟨c, m, hc, hm, hcm⟩ := count x hf 1 (by omega) (by omega)
 refine ⟨decide (c ≤ 80), ?_, ?_⟩
 ·unfold spec_ValOk.f
  exact Ev.bind hc Ev.some
 ·unfold impl_ValOk.f
  refine Ev.bind hm (Ev.cast Ev.some ?_)
  rw [decide_eq_decide]
  unfold cmB at hcm
  omega
inductive rightV : S30 → Prop
 | mk (x : S30) (h : hereB x = true) (g : ∀ y ∈ x.f3, rightV y) : rightV x
theorem Ev.same {α : Type} {g : Nat → Option α} {r s : α} (h : Ev g r) (h' : Ev g s) : r = s := by
 obtain ⟨K, h⟩ := h
 obtain ⟨K', h'⟩ := h'
 exact Option.some.inj ((h (max K K') (by omega)).symm.trans (h' (max K K') (by omega)))
theorem right_l (x : S30) (hl : x.f3.length ≤ 9223372036854775807) (deep : Int) (d1 : 1 ≤ deep) (d6 : deep ≤ 6)
  (ih : ∀ z ∈ x.f3, ∃ m, Ev (fun k => impl_Val_measure.f k z.f0 z.f1 z.f2 z.f3 z.f4 (deep + 1)) m ∧ 1 ≤ m ∧ m ≤ 81 ∧ (m ≤ 80 → rightV z)) (d : Nat) : ∀ (i : Nat) (n : Int), i + d = x.f3.length → 1 ≤ n → n ≤ 80 →
  ∃ m, Ev (fun k => impl_Val_measure.l0 k deep n x.f3 (x.f3.length : Int) (i : Int)) m ∧ 1 ≤ m ∧ m ≤ 81 ∧ (m ≤ 80 → ∀ z ∈ x.f3.drop i, rightV z) := by
 induction d with
 | zero =>
  intro i n hi n1 n80
  have h1 : ¬ (i : Int) < (x.f3.length : Int) := by omega
  refine ⟨n, ?_, n1, by omega, fun _ z hz => by rw [List.drop_eq_nil_of_le (by omega)] at hz; cases hz⟩
  refine Ev.succ ?_
  simp only [impl_Val_measure.l0, h1, if_false]
  exact Ev.some
 | succ d ihd =>
  intro i n hi n1 n80
  have hlt : i < x.f3.length := by omega
  have h1 : (i : Int) < (x.f3.length : Int) := by omega
  have h2 : (0 : Int) ≤ (i : Int) := by omega
  have h3 := next_i hlt hl
  have hw : wrap64 (deep + 1) = deep + 1 := wrap64_id (by omega) (by omega)
  have hg : rd_T30 x.f3 (i : Int) = x.f3[i] := rdD_cast _ hlt
  obtain ⟨m', hm, m1, m81, hr⟩ := ih _ (List.getElem_mem hlt)
  have wm : wrap64 (n + m') = n + m' := wrap64_id (by omega) (by omega)
  by_cases hs : n + m' > 80
  ·refine ⟨81, ?_, by omega, by omega, fun h => by omega⟩
   refine Ev.succ ?_
   simp only [impl_Val_measure.l0, h1, h2, h3, if_true, hg, hw]
   refine Ev.bind hm ?_
   simp only [wm, hs, if_true]
   exact Ev.some
  ·obtain ⟨m, hm2, k1, k81, hr2⟩ := ihd (i + 1) (n + m') (by omega) (by omega) (by omega)
   refine ⟨m, ?_, k1, k81, fun h z hz => ?_⟩
   ·refine Ev.succ ?_
    simp only [impl_Val_measure.l0, h1, h2, h3, if_true, hg, hw]
    refine Ev.bind hm ?_
    simp only [wm, hs, if_false]
    exact hm2
   ·rw [drop_get hlt] at hz
    rcases List.mem_cons.1 hz with rfl | hz
    ·exact hr (by omega)
    ·exact hr2 h z hz
theorem right_m (x : S30) (hf : fitVal x) : ∀ deep : Int, 1 ≤ deep → deep ≤ 7 →
  ∃ m, Ev (fun k => impl_Val_measure.f k x.f0 x.f1 x.f2 x.f3 x.f4 deep) m ∧ 1 ≤ m ∧ m ≤ 81 ∧ (m ≤ 80 → rightV x) := by
 induction hf with
 | mk x o3 g3 o4 g4 o2 ih =>
  intro deep d1 d7
  have bad : Ev (fun k => impl_Val_measure.j0 k deep true x.f0 x.f1 x.f2 x.f3 x.f4) 81 := by
   refine Ev.succ ?_
   simp only [impl_Val_measure.j0, if_true]
   exact Ev.some
  by_cases h7 : deep > 6
  ·refine ⟨81, ?_, by omega, by omega, fun h => by omega⟩
   refine Ev.succ ?_
   simp only [impl_Val_measure.f, h7, if_true]
   exact bad
  have hi := impl_here x o2 o4 g4
  cases hq : hereB x with
  | false =>
   rw [hq] at hi
   refine ⟨81, ?_, by omega, by omega, fun h => by omega⟩
   refine Ev.succ ?_
   simp only [impl_Val_measure.f, h7, if_false]
   refine Ev.bind hi ?_
   simp only [Bool.not_false]
   exact bad
  | true =>
   rw [hq] at hi
   obtain ⟨m, hm, m1, m81, hr⟩ := right_l x o3 deep d1 (by omega) (fun z hz => ih z hz (deep + 1) (by omega) (by omega)) x.f3.length 0 1 (by omega) (by omega) (by omega)
   refine ⟨m, ?_, m1, m81, fun h => rightV.mk x hq (hr h)⟩
   refine Ev.succ ?_
   simp only [impl_Val_measure.f, h7, if_false]
   refine Ev.bind hi ?_
   simp only [Bool.not_true]
   refine Ev.succ ?_
   simp only [impl_Val_measure.j0, Bool.false_eq_true, if_false]
   refine Ev.succ ?_
   simp only [impl_Val_measure.j1]
   exact hm
theorem valOk_right (x : S30) (hf : fitVal x) : ∃ b, Ev (fun k => spec_ValOk.f k x.f0 x.f1 x.f2 x.f3 x.f4) b ∧ Ev (fun k => impl_ValOk.f k x.f0 x.f1 x.f2 x.f3 x.f4) b ∧ (b = true → rightV x) := by
 obtain ⟨b, hs, hi⟩ := valOk x hf
 obtain ⟨m, hm, _, _, hr⟩ := right_m x hf 1 (by omega) (by omega)
 refine ⟨b, hs, hi, fun hb => hr ?_⟩
 have h2 : Ev (fun k => impl_ValOk.f k x.f0 x.f1 x.f2 x.f3 x.f4) (decide (m ≤ 80)) := by
  unfold impl_ValOk.f
  exact Ev.bind hm Ev.some
 have := Ev.same hi h2
 rw [hb] at this
 exact of_decide_eq_true this.symm
/-! The text. -/
def cma : ByteArray := ⟨#[44]⟩
def cln : ByteArray := ⟨#[58]⟩
def numV (n : Int) : ByteArray := if n < 0 then (⟨#[45]⟩ : ByteArray) ++ numB (-n) else numB n
mutual
def textV : S30 → ByteArray
 | ⟨k, n, s, l, ks⟩ => if k = 0 then ⟨#[110, 117, 108, 108]⟩ else if k = 1 then impl_Val_text.pick n else if k = 2 then numV n else if k = 3 then quoteB s else if k = 5 then (⟨#[123]⟩ : ByteArray) ++ joinB (textVS true l ks) cma ++ (⟨#[125]⟩ : ByteArray) else (⟨#[91]⟩ : ByteArray) ++ joinB (textVS false l ks) cma ++ (⟨#[93]⟩ : ByteArray)
def textVS (m : Bool) : List S30 → List ByteArray → List ByteArray
 | [], _ => []
 | x :: r, ks => (if m = true then quoteB (ks.headD ⟨#[]⟩) ++ cln ++ textV x else textV x) :: textVS m r ks.tail
end
mutual
def sizV : S30 → Int
 | ⟨_, _, s, l, ks⟩ => (s.size : Int) + ((l.length : Int) + sizVS l) + szL ks
def sizVS : List S30 → Int
 | [] => 0
 | x :: r => sizV x + sizVS r
end
theorem sizV_eq (x : S30) : sizV x = (x.f2.size : Int) + ((x.f3.length : Int) + sizVS x.f3) + szL x.f4 := by cases x; rw [sizV]
theorem textV_eq (x : S30) : textV x = if x.f0 = 0 then ⟨#[110, 117, 108, 108]⟩ else if x.f0 = 1 then impl_Val_text.pick x.f1 else if x.f0 = 2 then numV x.f1 else if x.f0 = 3 then quoteB x.f2 else if x.f0 = 5 then (⟨#[123]⟩ : ByteArray) ++ joinB (textVS true x.f3 x.f4) cma ++ (⟨#[125]⟩ : ByteArray) else (⟨#[91]⟩ : ByteArray) ++ joinB (textVS false x.f3 x.f4) cma ++ (⟨#[93]⟩ : ByteArray) := by cases x; rw [textV]
mutual
theorem sizV_conv : ∀ x : S25, sizV (convVal x) = needVal x
 | ⟨_, _, s, l, ks⟩ => by
  rw [convVal, sizV, needVal, sizVS_conv l, convValS_map, List.length_map]
theorem sizVS_conv : ∀ l : List S25, sizVS (convValS l) = needValS l
 | [] => by rw [convValS, sizVS, needValS]
 | x :: r => by rw [convValS, sizVS, needValS, sizV_conv x, sizVS_conv r]
end
mutual
theorem sizV_nonneg : ∀ x : S30, 0 ≤ sizV x
 | ⟨_, _, s, l, ks⟩ => by
  have h1 := sizVS_nonneg l
  have h2 := szL_nonneg ks
  rw [sizV]
  omega
theorem sizVS_nonneg : ∀ l : List S30, 0 ≤ sizVS l
 | [] => by rw [sizVS]; omega
 | x :: r => by
  have h1 := sizV_nonneg x
  have h2 := sizVS_nonneg r
  rw [sizVS]
  omega
end
theorem sizV_mem : ∀ {l : List S30} {x : S30}, x ∈ l → sizV x ≤ sizVS l
 | y :: r, x, h => by
  have h1 := sizV_nonneg y
  have h2 := sizVS_nonneg r
  rw [sizVS]
  rcases List.mem_cons.1 h with e | h
  ·rw [e]; omega
  ·have := sizV_mem h; omega
theorem textVS_length (m : Bool) : ∀ (l : List S30) (ks : List ByteArray), (textVS m l ks).length = l.length
 | [], _ => by rw [textVS]; rfl
 | x :: r, ks => by rw [textVS, List.length_cons, List.length_cons, textVS_length m r]
theorem szT_tail : ∀ ks : List ByteArray, ((ks.headD ⟨#[]⟩).size : Int) + szT ks.tail = szT ks
 | [] => rfl
 | k :: r => by simp [szT]
theorem textVS_size (m : Bool) : ∀ (l : List S30) (ks : List ByteArray), (∀ y ∈ l, ((textV y).size : Int) ≤ 24 + 28 * sizV y) → szT (textVS m l ks) ≤ 27 * (l.length : Int) + 28 * sizVS l + 2 * szT ks
 | [], ks, _ => by
  have := szT_nonneg ks
  rw [textVS, sizVS]
  simp [szT]
  omega
 | x :: r, ks, h => by
  have h1 := h x (List.mem_cons_self ..)
  have h2 := textVS_size m r ks.tail (fun y hy => h y (List.mem_cons_of_mem _ hy))
  have h3 := quoteB_size (ks.headD ⟨#[]⟩)
  have h4 := szT_tail ks
  have h5 : (((if m = true then quoteB (ks.headD ⟨#[]⟩) ++ cln ++ textV x else textV x) : ByteArray).size : Int) ≤ 2 * ((ks.headD ⟨#[]⟩).size : Int) + 3 + (textV x).size := by
   split
   ·rw [ByteArray.size_append, ByteArray.size_append, show cln.size = 1 from rfl]
    omega
   ·omega
  rw [textVS, szT, sizVS, List.length_cons]
  omega
theorem parts_N (m : Bool) (l : List S30) (ks : List ByteArray) (h : ∀ y ∈ l, ((textV y).size : Int) ≤ 24 + 28 * sizV y) : (joinN (textVS m l ks) cma : Int) ≤ 28 * (l.length : Int) + 28 * sizVS l + 2 * szT ks := by
 have h1 := textVS_size m l ks h
 have h2 := lens_szT (textVS m l ks)
 unfold joinN
 rw [textVS_length, show cma.size = 1 from rfl, Nat.one_mul]
 omega
theorem numV_size (n : Int) (h0 : -999999 ≤ n) (h1 : n ≤ 999999) : (numV n).size ≤ 20 := by
 unfold numV
 split
 ·have := numB_len (x := -n) (by omega)
  rw [ByteArray.size_append, show (⟨#[45]⟩ : ByteArray).size = 1 from rfl]
  omega
 ·have := numB_len (x := n) (by omega)
  omega
theorem pick_size (j : Int) : (impl_Val_text.pick j).size ≤ 5 := by
 unfold impl_Val_text.pick
 split <;> decide
theorem here_num {x : S30} (h : hereB x = true) (k : x.f0 = 2) : -999999 ≤ x.f1 ∧ x.f1 ≤ 999999 := by
 unfold hereB inB at h
 rw [k] at h
 simp at h
 omega
theorem here_bool {x : S30} (h : hereB x = true) (k : x.f0 = 1) : x.f1 = 0 ∨ x.f1 = 1 := by
 unfold hereB inB at h
 rw [k] at h
 simp at h
 omega
theorem here_map {x : S30} (h : hereB x = true) (k : x.f0 = 5) : x.f4.length = x.f3.length := by
 unfold hereB at h
 rw [k] at h
 simp at h
 exact h.2.2.1
theorem textV_size (x : S30) (hr : rightV x) : ((textV x).size : Int) ≤ 24 + 28 * sizV x := by
 induction hr with
 | mk x h g ih =>
  have h3 := sizVS_nonneg x.f3
  have h4 := szT_nonneg x.f4
  have h5 : szL x.f4 = (x.f4.length : Int) + szT x.f4 := rfl
  have h6 := quoteB_size x.f2
  rw [textV_eq, sizV_eq]
  split
  ·show (4 : Int) ≤ _; omega
  split
  ·have := pick_size x.f1; omega
  split
  next k => have := here_num h k; have := numV_size x.f1 this.1 this.2; omega
  split
  ·omega
  split
  ·have h7 := parts_N true x.f3 x.f4 ih
   have h8 := joinB_size (textVS true x.f3 x.f4) cma
   rw [ByteArray.size_append, ByteArray.size_append, show (⟨#[123]⟩ : ByteArray).size = 1 from rfl, show (⟨#[125]⟩ : ByteArray).size = 1 from rfl]
   omega
  ·have h7 := parts_N false x.f3 x.f4 ih
   have h8 := joinB_size (textVS false x.f3 x.f4) cma
   rw [ByteArray.size_append, ByteArray.size_append, show (⟨#[91]⟩ : ByteArray).size = 1 from rfl, show (⟨#[93]⟩ : ByteArray).size = 1 from rfl]
   omega
theorem impl_num_text (n : Int) (h0 : -999999 ≤ n) (h1 : n ≤ 999999) : strconv_Itoa.f n = some (numV n) := by
 unfold strconv_Itoa.f numV numB
 rw [if_pos ⟨by omega, by omega⟩]
 unfold Lib.itoa
 by_cases h : n < 0
 ·rw [if_pos h, if_pos h, show (-n).toNat = n.natAbs by omega, show (⟨#[45]⟩ : ByteArray) = ofL [45] from rfl, ofL_append]
  rfl
 ·rw [if_neg h, if_neg h]
  rfl
theorem spec_num_text (n : Int) (h0 : -999999 ≤ n) (h1 : n ≤ 999999) : Ev (fun k => spec_l2Num.f k n) (numV n) := by
 unfold spec_l2Num.f numV
 by_cases h : n < 0
 ·simp only [h, if_true]
  rw [wrap64_id (by omega) (by omega)]
  have := numB_len (x := -n) (by omega)
  exact Ev.bind (spec_num (-n) (by omega)) (Ev.yes (by omega) Ev.some)
 ·simp only [h, if_false]
  exact Ev.bind (spec_num n (by omega)) Ev.some
theorem VS_drop (m : Bool) {l : List S30} {ks : List ByteArray} {i : Nat} (h : i < l.length) (hk : m = true → i < ks.length) : textVS m (l.drop i) (ks.drop i) = (if h : m = true then quoteB (ks[i]'(hk h)) ++ cln ++ textV l[i] else textV l[i]) :: textVS m (l.drop (i + 1)) (ks.drop (i + 1)) := by
 rw [drop_get h, textVS, List.tail_drop]
 congr 1
 by_cases hm : m = true
 ·rw [if_pos hm, dif_pos hm]
  congr 2
  rw [drop_get (hk hm)]
  rfl
 ·rw [if_neg hm, dif_neg hm]
theorem impl_vtext_l (x : S30) (hh : hereB x = true) (k0 : ¬ x.f0 = 0) (k1 : ¬ x.f0 = 1) (k2 : ¬ x.f0 = 2) (k3 : ¬ x.f0 = 3) (hl : x.f3.length ≤ 1048576) (hk : ∀ z ∈ x.f4, z.size ≤ 1048576)
  (ht : ∀ y ∈ x.f3, ((textV y).size : Int) ≤ 100000000) (hN : (joinN (textVS (decide (x.f0 = 5)) x.f3 x.f4) cma : Int) ≤ 100000000)
  (ih : ∀ y ∈ x.f3, Ev (fun k => impl_Val_text.f k y.f0 y.f1 y.f2 y.f3 y.f4) (textV y)) (d : Nat) : ∀ (i : Nat) (ps : List ByteArray), i + d = x.f3.length → ps.length = i → ps ++ textVS (decide (x.f0 = 5)) (x.f3.drop i) (x.f4.drop i) = textVS (decide (x.f0 = 5)) x.f3 x.f4 →
  Ev (fun k => impl_Val_text.l0 k ps x.f3 (x.f3.length : Int) (i : Int) x.f0 x.f1 x.f2 x.f3 x.f4) (textV x) := by
 induction d with
 | zero =>
  intro i ps hi hp he
  have h1 : ¬ (i : Int) < (x.f3.length : Int) := by omega
  rw [List.drop_eq_nil_of_le (show x.f3.length ≤ i by omega), textVS, List.append_nil] at he
  subst he
  have hj := strings_join (textVS (decide (x.f0 = 5)) x.f3 x.f4) cma (by omega) (by rw [textVS_length]; omega)
  have hs := joinB_size (textVS (decide (x.f0 = 5)) x.f3 x.f4) cma
  refine Ev.succ ?_
  simp only [impl_Val_text.l0, h1, if_false]
  rw [textV_eq]
  simp only [k0, k1, k2, k3, if_false]
  by_cases k5 : x.f0 = 5
  ·simp only [k5, decide_true] at hN
   simp only [k5, if_true, decide_true] at hj hs ⊢
   refine Ev.bind (Ev.const hj) (Ev.yes (by omega) (Ev.yes ?_ Ev.some))
   rw [ByteArray.size_append, show (⟨#[123]⟩ : ByteArray).size = 1 from rfl]
   omega
  ·simp only [k5, if_false, decide_false] at hj hs ⊢
   refine Ev.bind (Ev.const hj) (Ev.yes (by simp only [k5, decide_false] at hN; omega) (Ev.yes ?_ Ev.some))
   rw [ByteArray.size_append, show (⟨#[91]⟩ : ByteArray).size = 1 from rfl]
   simp only [k5, decide_false] at hN
   omega
 | succ d ihd =>
  intro i ps hi hp he
  have hlt : i < x.f3.length := by omega
  have h1 : (i : Int) < (x.f3.length : Int) := by omega
  have h2 : (0 : Int) ≤ (i : Int) := by omega
  have h3 := next_i hlt (by omega)
  have hg : rd_T30 x.f3 (i : Int) = x.f3[i] := rdD_cast _ hlt
  have hti := ht _ (List.getElem_mem hlt)
  have h5 : decide (x.f0 = 5) = true → i < x.f4.length := fun h => by have := here_map hh (of_decide_eq_true h); omega
  rw [VS_drop _ hlt h5] at he
  refine Ev.succ ?_
  simp only [impl_Val_text.l0, h1, if_true]
  refine Ev.succ ?_
  simp only [impl_Val_text.j1, h1, h2, h3, if_true, hg]
  refine Ev.bind (ih _ (List.getElem_mem hlt)) ?_
  have next : ∀ p, ps ++ p :: textVS (decide (x.f0 = 5)) (x.f3.drop (i + 1)) (x.f4.drop (i + 1)) = textVS (decide (x.f0 = 5)) x.f3 x.f4 → Ev (fun k => if ps.length < 8796093022208 then impl_Val_text.l0 k (ps ++ [p]) x.f3 (x.f3.length : Int) ((i + 1 : Nat) : Int) x.f0 x.f1 x.f2 x.f3 x.f4 else none) (textV x) := fun p hp' =>
   Ev.yes (by omega) (ihd (i + 1) (ps ++ [p]) (by omega) (by simp [hp]) (by rw [← hp', List.append_assoc]; rfl))
  by_cases k5 : x.f0 = 5
  ·have hi4 := h5 (by rw [k5]; rfl)
   have hq := quoteB_size x.f4[i]
   have hqk := hk _ (List.getElem_mem hi4)
   simp only [k5, if_true, show (i : Int) < (x.f4.length : Int) by omega, rdOf_cast _ hi4, impl_quote _ hqk, Option.bind_some]
   refine Ev.yes (by omega) (Ev.yes (by rw [ByteArray.size_append, show (⟨#[58]⟩ : ByteArray).size = 1 from rfl]; omega) ?_)
   have := next (quoteB x.f4[i] ++ cln ++ textV x.f3[i]) (by rw [← he, dif_pos (by rw [k5]; rfl)])
   simp only [k5] at this
   exact this
  ·simp only [k5, if_false]
   exact next (textV x.f3[i]) (by rw [← he, dif_neg (by rw [decide_eq_true_iff]; exact k5)])
theorem szT_mem : ∀ {l : List ByteArray} {z : ByteArray}, z ∈ l → (z.size : Int) ≤ szT l
 | y :: r, z, h => by
  have := szT_nonneg r
  rw [szT]
  rcases List.mem_cons.1 h with e | h
  ·rw [e]; omega
  ·have := szT_mem h; omega
theorem impl_text_v (x : S30) (hr : rightV x) : sizV x ≤ 1048576 → Ev (fun k => impl_Val_text.f k x.f0 x.f1 x.f2 x.f3 x.f4) (textV x) := by
 induction hr with
 | mk x h g ih =>
  intro hn
  have hy : ∀ y ∈ x.f3, ((textV y).size : Int) ≤ 24 + 28 * sizV y := fun y hy => textV_size y (g y hy)
  have hsz : ∀ y ∈ x.f3, sizV y ≤ 1048576 := fun y hy => by
   have h1 := sizV_mem hy
   have h2 := szL_nonneg x.f4
   rw [sizV_eq] at hn
   omega
  have h3 := sizVS_nonneg x.f3
  have h4 := szT_nonneg x.f4
  have h5 : szL x.f4 = (x.f4.length : Int) + szT x.f4 := rfl
  rw [sizV_eq] at hn
  refine Ev.succ ?_
  simp only [impl_Val_text.f]
  rw [textV_eq]
  by_cases k0 : x.f0 = 0
  ·simp only [k0, if_true]
   exact Ev.some
  by_cases k1 : x.f0 = 1
  ·have := here_bool h k1
   simp only [k1, if_true, show ¬ (1 : Int) = 0 by omega, if_false]
   exact Ev.yes (by omega) (Ev.yes (by omega) Ev.some)
  by_cases k2 : x.f0 = 2
  ·have := here_num h k2
   simp only [k2, if_true, show ¬ (2 : Int) = 0 by omega, show ¬ (2 : Int) = 1 by omega, if_false, impl_num_text x.f1 this.1 this.2, Option.bind_some]
   exact Ev.some
  by_cases k3 : x.f0 = 3
  ·simp only [k3, if_true, show ¬ (3 : Int) = 0 by omega, show ¬ (3 : Int) = 1 by omega, show ¬ (3 : Int) = 2 by omega, if_false, impl_quote x.f2 (by omega), Option.bind_some]
   exact Ev.some
  have hN := parts_N (decide (x.f0 = 5)) x.f3 x.f4 hy
  have hq := impl_vtext_l x h k0 k1 k2 k3 (by omega) (fun z hz => by have := szT_mem hz; omega) (fun y hy' => by have := hy y hy'; have := hsz y hy'; omega) (by omega) (fun y hy' => ih y hy' (hsz y hy')) x.f3.length 0 [] (by omega) rfl rfl
  rw [textV_eq] at hq
  simp only [k0, k1, k2, k3, if_false] at hq ⊢
  exact hq
theorem VS_pre (m : Bool) (l : List S30) (ks : List ByteArray) : tlV cma 0 (textVS m l ks) = joinB (textVS m l ks) cma := tlV_join cma _
theorem spec_vtext_l (x : S30) (hh : hereB x = true) (k0 : ¬ x.f0 = 0) (k1 : ¬ x.f0 = 1) (k2 : ¬ x.f0 = 2) (k3 : ¬ x.f0 = 3) (hl : x.f3.length ≤ 1048576) (hk : ∀ z ∈ x.f4, z.size ≤ 1048576)
  (hN : (joinN (textVS (decide (x.f0 = 5)) x.f3 x.f4) cma : Int) ≤ 100000000)
  (ih : ∀ y ∈ x.f3, Ev (fun k => spec_l2Put.f k y.f0 y.f1 y.f2 y.f3 y.f4) (textV y)) (d : Nat) : ∀ (i : Nat) (t : ByteArray), i + d = x.f3.length → t ++ tlV cma i (textVS (decide (x.f0 = 5)) (x.f3.drop i) (x.f4.drop i)) = joinB (textVS (decide (x.f0 = 5)) x.f3 x.f4) cma →
  Ev (fun k => spec_l2Put.l0 k t (i : Int) x.f0 x.f1 x.f2 x.f3 x.f4) (textV x) := by
 have hs := joinB_size (textVS (decide (x.f0 = 5)) x.f3 x.f4) cma
 induction d with
 | zero =>
  intro i t hi he
  have h1 : ¬ (i : Int) < (x.f3.length : Int) := by omega
  rw [List.drop_eq_nil_of_le (show x.f3.length ≤ i by omega), textVS, tlV_end, tl_nil] at he
  subst he
  refine Ev.succ ?_
  simp only [spec_l2Put.l0, h1, if_false]
  rw [textV_eq]
  simp only [k0, k1, k2, k3, if_false]
  by_cases k5 : x.f0 = 5
  ·simp only [k5, decide_true] at hs hN
   simp only [k5, if_true, decide_true]
   refine Ev.yes (by omega) (Ev.yes ?_ Ev.some)
   rw [ByteArray.size_append, show (⟨#[123]⟩ : ByteArray).size = 1 from rfl]
   omega
  ·simp only [k5, decide_false] at hs hN
   simp only [k5, if_false, decide_false]
   refine Ev.yes (by omega) (Ev.yes ?_ Ev.some)
   rw [ByteArray.size_append, show (⟨#[91]⟩ : ByteArray).size = 1 from rfl]
   omega
 | succ d ihd =>
  intro i t hi he
  have hlt : i < x.f3.length := by omega
  have h1 : (i : Int) < (x.f3.length : Int) := by omega
  have h2 : (0 : Int) ≤ (i : Int) := by omega
  have h3 := next_i hlt (by omega)
  have hg : rd_T30 x.f3 (i : Int) = x.f3[i] := rdD_cast _ hlt
  have h5 : decide (x.f0 = 5) = true → i < x.f4.length := fun h => by have := here_map hh (of_decide_eq_true h); omega
  rw [VS_drop _ hlt h5] at he
  have two : ∀ t' : ByteArray, t' ++ ((if h : decide (x.f0 = 5) = true then quoteB (x.f4[i]'(h5 h)) ++ cln ++ textV x.f3[i] else textV x.f3[i]) ++ tlV cma 1 (textVS (decide (x.f0 = 5)) (x.f3.drop (i + 1)) (x.f4.drop (i + 1)))) = joinB (textVS (decide (x.f0 = 5)) x.f3 x.f4) cma → Ev (fun k => spec_l2Put.j2 k t' (i : Int) x.f0 x.f1 x.f2 x.f3 x.f4) (textV x) := by
   intro t' he'
   have hz := congrArg ByteArray.size he'
   rw [ByteArray.size_append, ByteArray.size_append] at hz
   have next := fun t2 h => ihd (i + 1) t2 (by omega) ((congrArg (fun z => t2 ++ z) (tlV_one cma i _)).trans h)
   refine Ev.succ ?_
   by_cases k5 : x.f0 = 5
   ·have hi4 := h5 (by rw [k5]; rfl)
    have hq := quoteB_size x.f4[i]
    have hqk := hk _ (List.getElem_mem hi4)
    rw [dif_pos (by rw [k5]; rfl)] at hz he'
    rw [ByteArray.size_append, ByteArray.size_append, show cln.size = 1 from rfl] at hz
    simp only [spec_l2Put.j2, k5, h1, h2, h3, hg, if_true, show (i : Int) < (x.f4.length : Int) by omega, rdOf_cast _ hi4]
    refine Ev.bind (spec_quote _ hqk) (Ev.yes (by omega) (Ev.yes (by rw [ByteArray.size_append]; omega) ?_))
    refine Ev.bind (ih _ (List.getElem_mem hlt)) (Ev.yes (by rw [ByteArray.size_append, ByteArray.size_append, show (⟨#[58]⟩ : ByteArray).size = 1 from rfl]; omega) ?_)
    have := next (t' ++ quoteB x.f4[i] ++ cln ++ textV x.f3[i]) (by rw [← he']; simp only [tl_assoc])
    rw [k5] at this
    exact this
   ·rw [dif_neg (by rw [decide_eq_true_iff]; exact k5)] at hz he'
    simp only [spec_l2Put.j2, k5, h1, h2, h3, hg, if_true, if_false]
    refine Ev.bind (ih _ (List.getElem_mem hlt)) (Ev.yes (by omega) ?_)
    exact next (t' ++ textV x.f3[i]) (by rw [← he']; simp only [tl_assoc])
  refine Ev.succ ?_
  simp only [spec_l2Put.l0, h1, if_true]
  refine Ev.succ ?_
  rcases i with _ | i
  ·simp only [spec_l2Put.j1, show ¬ ((0 : Nat) : Int) > 0 by omega, if_false]
   exact two t (by rw [tlV_zero] at he; exact he)
  ·have hz := congrArg ByteArray.size he
   rw [tlV_succ, ByteArray.size_append, ByteArray.size_append, show cma.size = 1 from rfl] at hz
   simp only [spec_l2Put.j1, show ((i + 1 : Nat) : Int) > 0 by omega, if_true]
   refine Ev.yes (by omega) (two (t ++ cma) (by rw [tlV_succ] at he; rw [tl_assoc]; exact he))
theorem spec_text_v (x : S30) (hr : rightV x) : sizV x ≤ 1048576 → Ev (fun k => spec_l2Put.f k x.f0 x.f1 x.f2 x.f3 x.f4) (textV x) := by
 induction hr with
 | mk x h g ih =>
  intro hn
  have hy : ∀ y ∈ x.f3, ((textV y).size : Int) ≤ 24 + 28 * sizV y := fun y hy => textV_size y (g y hy)
  have hsz : ∀ y ∈ x.f3, sizV y ≤ 1048576 := fun y hy => by
   have h1 := sizV_mem hy
   have h2 := szL_nonneg x.f4
   rw [sizV_eq] at hn
   omega
  have h3 := sizVS_nonneg x.f3
  have h4 := szT_nonneg x.f4
  have h5 : szL x.f4 = (x.f4.length : Int) + szT x.f4 := rfl
  rw [sizV_eq] at hn
  refine Ev.succ ?_
  simp only [spec_l2Put.f]
  rw [textV_eq]
  by_cases k0 : x.f0 = 0
  ·simp only [k0, if_true]
   exact Ev.some
  by_cases k1 : x.f0 = 1
  ·simp only [k1, if_true, show ¬ (1 : Int) = 0 by omega, if_false]
   rcases here_bool h k1 with e | e
   ·simp only [e, show ¬ (0 : Int) = 1 by omega, if_false]
    exact Ev.some
   ·simp only [e, if_true]
    exact Ev.some
  by_cases k2 : x.f0 = 2
  ·have := here_num h k2
   simp only [k2, if_true, show ¬ (2 : Int) = 0 by omega, show ¬ (2 : Int) = 1 by omega, if_false]
   exact Ev.bind (spec_num_text x.f1 this.1 this.2) Ev.some
  by_cases k3 : x.f0 = 3
  ·simp only [k3, if_true, show ¬ (3 : Int) = 0 by omega, show ¬ (3 : Int) = 1 by omega, show ¬ (3 : Int) = 2 by omega, if_false]
   exact Ev.bind (spec_quote x.f2 (by omega)) Ev.some
  have hN := parts_N (decide (x.f0 = 5)) x.f3 x.f4 hy
  have hq := spec_vtext_l x h k0 k1 k2 k3 (by omega) (fun z hz => by have := szT_mem hz; omega) (by omega) (fun y hy' => ih y hy' (hsz y hy')) x.f3.length 0 ⟨#[]⟩ (by omega) (by rw [nil_tl]; exact VS_pre _ _ _)
  rw [textV_eq] at hq
  simp only [k0, k1, k2, k3, if_false] at hq ⊢
  exact hq
theorem spec_valtext (x : S30) (hf : fitVal x) (hn : sizV x ≤ 1048576) : ∃ t, Ev (fun k => spec_ValText.f k x.f0 x.f1 x.f2 x.f3 x.f4) t ∧ Ev (fun k => impl_ValText.f k x.f0 x.f1 x.f2 x.f3 x.f4) t := by
 obtain ⟨b, hs, hi, hr⟩ := valOk_right x hf
 unfold spec_ValText.f impl_ValText.f
 cases b with
 | false =>
  refine ⟨⟨#[]⟩, Ev.bind hs ?_, Ev.bind hi ?_⟩
  ·simpa using Ev.some
  ·simpa using Ev.some
 | true =>
  refine ⟨textV x, Ev.bind hs ?_, Ev.bind hi ?_⟩
  ·simp only [if_true]
   exact Ev.bind (spec_text_v x (hr rfl) hn) Ev.some
  ·simp only [if_true]
   exact Ev.bind (impl_text_v x (hr rfl) hn) Ev.some
end Go.Proofs.YtglhniiabhknoaaDoor.Pure
