/- What the functions come to. -/
import Derived.Test.YtglhniiabhknoaaZGAAux
import Derived.Test.YtglhniiabhknoaaZGAPGAx0
import Derived.Test.YtglhniiabhknoaaZGAPGAx1
import Derived.Test.YtglhniiabhknoaaZGAPGAx4
import Derived.Test.YtglhniiabhknoaaZGAPGAx7
import Derived.Test.YtglhniiabhknoaaZGAOGA
set_option linter.unusedVariables false
set_option linter.unusedSimpArgs false
namespace Go.Proofs.Ytglhniiabhknoaa.Pure
open Go.RowKit Go.Proofs.Ytglhniiabhknoaa.PGA Go.Proofs.YtglhniiabhknoaaW.PrintWords Go.Proofs.YtglhniiabhknoaaW.PrintLast Go.Proofs.Ytglhniiabhknoaa.Aux
theorem szStringS_l (l : List ByteArray) (hl : l.length ≤ 9223372036854775807) (hs : ∀ x ∈ l, x.size ≤ 9223372036854775807) (d : Nat) : ∀ (i : Nat) (a : Int), i + d = l.length → 0 ≤ a → a ≤ 9223372036854775807 →
  Ev (fun k => laws_szStringS.l0 k l a (i : Int)) (left (szT (l.drop i)) a) := by
 induction d with
 | zero =>
  intro i a hi h0 ha
  have h1 : ¬ (i : Int) < (l.length : Int) := by omega
  refine Ev.succ ?_
  rw [List.drop_eq_nil_of_le (by omega), left_pos (by simpa [szT] using h0)]
  simp only [laws_szStringS.l0, h1, if_false, szT, Int.sub_zero]
  exact Ev.some
 | succ d ih =>
  intro i a hi h0 ha
  have hlt : i < l.length := by omega
  have h1 : (i : Int) < (l.length : Int) := by omega
  have h2 : (0 : Int) ≤ (i : Int) := by omega
  have h3 := next_i hlt hl
  have hx := hs _ (List.getElem_mem hlt)
  have h4 : wrap64 (a - (l[i].size : Int)) = a - (l[i].size : Int) := wrap64_id (by omega) (by omega)
  have hn := szT_nonneg (l.drop (i + 1))
  refine Ev.succ ?_
  rw [drop_get hlt]
  simp only [laws_szStringS.l0, h1, h2, h3, if_true, rdOf_cast _ hlt, h4, szT]
  by_cases h5 : a - (l[i].size : Int) < 0
  ·simp only [h5, if_true]
   rw [left_not (by omega)]
   exact Ev.some
  ·simp only [h5, if_false]
   refine Ev.cast (ih (i + 1) (a - (l[i].size : Int)) (by omega) (by omega) (by omega)) ?_
   unfold left
   split <;> split <;> omega
theorem szStringS (l : List ByteArray) (a : Int) (hl : l.length ≤ 9223372036854775807) (hs : ∀ x ∈ l, x.size ≤ 9223372036854775807) (h0 : 0 ≤ a) (ha : a ≤ 9223372036854775807) : Ev (fun k => laws_szStringS.f k l a) (left (szL l) a) := by
 unfold laws_szStringS.f
 have hn := szT_nonneg l
 rw [wrap64_id (by omega) (by omega)]
 by_cases h : a - (l.length : Int) < 0
 ·simp only [h, if_true]
  rw [left_not (by unfold szL; omega)]
  exact Ev.some
 ·simp only [h, if_false]
  refine Ev.succ ?_
  simp only [laws_szStringS.j0]
  refine Ev.cast (szStringS_l l hl hs l.length 0 (a - (l.length : Int)) (by omega) (by omega) (by omega)) ?_
  unfold left szL
  rw [List.drop_zero]
  split <;> split <;> omega
theorem toStringS_l (l : List ByteArray) (hl : l.length ≤ 9223372036854775807) (d : Nat) : ∀ (i : Nat) (x : List ByteArray), i + d = l.length → x.length = l.length → x.take i = l.take i →
  Ev (fun k => laws_toStringS.l0 k l x (i : Int)) l := by
 induction d with
 | zero =>
  intro i x hi hx he
  have h1 : ¬ (i : Int) < (l.length : Int) := by omega
  have e : x = l := by rwa [List.take_of_length_le (by omega), List.take_of_length_le (by omega)] at he
  refine Ev.succ ?_
  simp only [laws_toStringS.l0, h1, if_false, e]
  exact Ev.some
 | succ d ih =>
  intro i x hi hx he
  have hlt : i < l.length := by omega
  have h1 : (i : Int) < (l.length : Int) := by omega
  have h1x : (i : Int) < (x.length : Int) := by omega
  have h2 : (0 : Int) ≤ (i : Int) := by omega
  have h3 := next_i hlt hl
  refine Ev.succ ?_
  simp only [laws_toStringS.l0, h1, h1x, h2, h3, if_true, Int.toNat_natCast, rdOf_cast _ hlt]
  exact ih (i + 1) _ (by omega) (by simpa using hx) (take_set_step (by omega) hlt he)
theorem toStringS (l : List ByteArray) (hl : l.length ≤ 17592186044416) : Ev (fun k => laws_toStringS.f k l) l := by
 unfold laws_toStringS.f
 simp only [show (0 : Int) ≤ (l.length : Int) by omega, show (l.length : Int).toNat ≤ 17592186044416 by omega, if_true]
 exact toStringS_l l (by omega) l.length 0 _ (by omega) (by simp) (by simp)
theorem eqStringS_l (a b : List ByteArray) (hl : a.length ≤ 9223372036854775807) (hab : a.length = b.length) (d : Nat) : ∀ i : Nat, i + d = a.length →
  Ev (fun k => laws_eqStringS.l0 k a b (i : Int)) (decide (a.drop i = b.drop i)) := by
 induction d with
 | zero =>
  intro i hi
  have h1 : ¬ (i : Int) < (a.length : Int) := by omega
  refine Ev.succ ?_
  rw [List.drop_eq_nil_of_le (by omega), List.drop_eq_nil_of_le (by omega)]
  simp only [laws_eqStringS.l0, h1, if_false, decide_true]
  exact Ev.some
 | succ d ih =>
  intro i hi
  have hlt : i < a.length := by omega
  have hlb : i < b.length := by omega
  have h1 : (i : Int) < (a.length : Int) := by omega
  have h1b : (i : Int) < (b.length : Int) := by omega
  have h2 : (0 : Int) ≤ (i : Int) := by omega
  have h3 := next_i hlt hl
  refine Ev.succ ?_
  rw [drop_get hlt, drop_get hlb]
  simp only [laws_eqStringS.l0, h1, h1b, h2, h3, if_true, rdOf_cast _ hlt, rdOf_cast _ hlb, toList_inj]
  by_cases h : a[i] = b[i]
  ·simp only [h, if_true, List.cons.injEq, true_and]
   exact ih (i + 1) (by omega)
  ·simp only [h, if_false, List.cons.injEq, false_and, decide_false]
   exact Ev.some
theorem eqStringS (a b : List ByteArray) (hl : a.length ≤ 9223372036854775807) : Ev (fun k => laws_eqStringS.f k a b) (decide (a = b)) := by
 unfold laws_eqStringS.f
 by_cases h : (a.length : Int) = (b.length : Int)
 ·simp only [h, if_true]
  refine Ev.succ ?_
  simp only [laws_eqStringS.j0]
  exact eqStringS_l a b hl (by omega) a.length 0 (by omega)
 ·simp only [h, if_false]
  have : ¬ a = b := fun e => h (by rw [e])
  simp only [this, decide_false]
  exact Ev.some
theorem strOfNums_size (l : List Int) : (strOfNums l).size = l.length := by
 unfold strOfNums
 simp [ByteArray.size]
theorem markText_l (n : Nat) : ∀ (x : Nat) (t : ByteArray), x ≤ n → x + t.size ≤ 1099511627776 → ∃ r, Ev (fun k => laws_markText.l0 k (x : Int) t) r := by
 induction n with
 | zero =>
  intro x t hx ht
  obtain rfl : x = 0 := by omega
  refine ⟨(⟨#[109]⟩ : ByteArray) ++ t, Ev.succ ?_⟩
  ·simp only [laws_markText.l0, show ¬ ((0 : Nat) : Int) > 0 by omega, if_false, show 1 + t.size ≤ 9223372036854775807 by omega, if_true]
   exact Ev.some
 | succ n ih =>
  intro x t hx ht
  by_cases h0 : x = 0
  ·subst h0
   refine ⟨(⟨#[109]⟩ : ByteArray) ++ t, Ev.succ ?_⟩
   ·simp only [laws_markText.l0, show ¬ ((0 : Nat) : Int) > 0 by omega, if_false, show 1 + t.size ≤ 9223372036854775807 by omega, if_true]
    exact Ev.some
  ·have hd : wrap64 (Int.tdiv (x : Int) 10) = ((x / 10 : Nat) : Int) := by
    rw [Int.tdiv_eq_ediv_of_nonneg (by omega)]
    rw [wrap64_id (by omega) (by omega)]
    omega
   have hsz : (strOfNums [wrap64 (48 + Int.tmod (x : Int) 10) % 256]).size = 1 := strOfNums_size _
   obtain ⟨r, hr⟩ := ih (x / 10) (strOfNums [wrap64 (48 + Int.tmod (x : Int) 10) % 256] ++ t) (by omega) (by rw [ByteArray.size_append, hsz]; omega)
   refine ⟨r, Ev.succ ?_⟩
   simp only [laws_markText.l0, show (x : Int) > 0 by omega, if_true, Option.bind_some, hsz, show 1 + t.size ≤ 9223372036854775807 by omega, hd]
   exact hr
theorem markText_ex (x : Int) (h : x ≤ 4398046511104 / 8) : ∃ r, Ev (fun k => laws_markText.f k x) r := by
 unfold laws_markText.f
 by_cases h0 : x ≤ 0
 ·simp only [h0, if_true]
  exact ⟨_, Ev.some⟩
 ·simp only [h0, if_false]
  obtain ⟨n, rfl⟩ : ∃ n : Nat, x = n := ⟨x.toNat, by omega⟩
  obtain ⟨r, hr⟩ := markText_l n n (⟨#[]⟩ : ByteArray) (Nat.le_refl _) (by show n + 0 ≤ _; omega)
  refine ⟨r, Ev.succ ?_⟩
  simp only [laws_markText.j0]
  exact hr
open Classical in
noncomputable def mkT (x : Int) : ByteArray := if h : ∃ r, Ev (fun k => laws_markText.f k x) r then h.choose else ByteArray.empty
theorem markText (x : Int) (h : x ≤ 549755813888) : Ev (fun k => laws_markText.f k x) (mkT x) := by
 have hx := markText_ex x (by omega)
 unfold mkT
 rw [dif_pos hx]
 exact hx.choose_spec
noncomputable def mks (x : Int) : Nat → List ByteArray
 | 0 => []
 | n + 1 => mkT x :: mks (x + 1) n
theorem mks_length : ∀ (n : Nat) (x : Int), (mks x n).length = n
 | 0, _ => rfl
 | n + 1, x => by rw [mks, List.length_cons, mks_length n]
theorem mks_get : ∀ (n : Nat) (x : Int) (i : Nat) (h : i < (mks x n).length), (mks x n)[i] = mkT (x + i)
 | 0, _, _, h => absurd h (by simp [mks])
 | n + 1, x, 0, _ => by simp [mks]
 | n + 1, x, i + 1, h => by
  have := mks_get n (x + 1) i (by simpa [mks] using h)
  simp only [mks, List.getElem_cons_succ, this]
  congr 1
  omega
theorem markStringS_l (n : Nat) (x : Int) (hx0 : 0 ≤ x) (hx : x + n ≤ 549755813888) (d : Nat) : ∀ (i : Nat) (l : List ByteArray), i + d = n → l.length = n → l.take i = (mks x n).take i →
  Ev (fun k => laws_markStringS.l0 k l (x + i) (i : Int)) (x + n, mks x n) := by
 induction d with
 | zero =>
  intro i l hi hl he
  obtain rfl : i = n := by omega
  have e : l = mks x i := by rwa [List.take_of_length_le (by omega), List.take_of_length_le (by rw [mks_length]; exact Nat.le_refl _)] at he
  subst e
  have h1 : ¬ (i : Int) < ((mks x i).length : Int) := by omega
  refine Ev.succ ?_
  simp only [laws_markStringS.l0, h1, if_false]
  exact Ev.some
 | succ d ih =>
  intro i l hi hl he
  have h1 : (i : Int) < (l.length : Int) := by omega
  have h2 : (0 : Int) ≤ (i : Int) := by omega
  have h3 := next_i (show i < n by omega) (by omega)
  have h4 : wrap64 (x + i + 1) = x + ((i + 1 : Nat) : Int) := by rw [wrap64_id (by omega) (by omega)]; omega
  refine Ev.succ ?_
  simp only [laws_markStringS.l0, h1, if_true]
  refine Ev.bind (markText (x + i) (by omega)) ?_
  simp only [h2, if_true, h3, h4, Int.toNat_natCast]
  refine ih (i + 1) _ (by omega) (by simpa using hl) ?_
  have := take_set_step (l := l) (m := mks x n) (i := i) (by omega) (by rw [mks_length]; omega) he
  rwa [mks_get n x i (by rw [mks_length]; omega)] at this
theorem markStringS (l : List ByteArray) (x : Int) (hx0 : 0 ≤ x) (hx : x + l.length ≤ 549755813888) : Ev (fun k => laws_markStringS.f k l x) (x + l.length, mks x l.length) := by
 unfold laws_markStringS.f
 have := markStringS_l l.length x hx0 hx l.length 0 l (by omega) rfl (by simp)
 simpa using this
theorem heldStringS_l (n : Nat) (x : Int) (hx0 : 0 ≤ x) (hx : x + n ≤ 549755813888) (d : Nat) : ∀ (i : Nat), i + d = n → Ev (fun k => laws_heldStringS.l0 k (mks x n) (x + i) (i : Int)) (x + n) := by
 induction d with
 | zero =>
  intro i hi
  obtain rfl : i = n := by omega
  have h1 : ¬ (i : Int) < ((mks x i).length : Int) := by rw [mks_length]; omega
  refine Ev.succ ?_
  simp only [laws_heldStringS.l0, h1, if_false]
  exact Ev.some
 | succ d ih =>
  intro i hi
  have hlt : i < (mks x n).length := by rw [mks_length]; omega
  have h1 : (i : Int) < ((mks x n).length : Int) := by omega
  have h2 : (0 : Int) ≤ (i : Int) := by omega
  have h3 := next_i (show i < n by omega) (by omega)
  have h4 : wrap64 (x + i + 1) = x + ((i + 1 : Nat) : Int) := by rw [wrap64_id (by omega) (by omega)]; omega
  refine Ev.succ ?_
  simp only [laws_heldStringS.l0, h1, h2, if_true, rdOf_cast _ hlt, mks_get n x i hlt]
  refine Ev.bind (markText (x + i) (by omega)) ?_
  simp only [if_true, h3, h4]
  exact ih (i + 1) (by omega)
theorem heldStringS (x : Int) (n : Nat) (hx0 : 0 ≤ x) (hx : x + n ≤ 549755813888) : Ev (fun k => laws_heldStringS.f k (mks x n) x) (x + n) := by
 unfold laws_heldStringS.f
 have := heldStringS_l n x hx0 hx n 0 (by omega)
 simpa using this
theorem all_mem {β : Type} {P : β → Nat → Prop} : ∀ (l : List β), (∀ x ∈ l, ∃ K, ∀ k, K ≤ k → P x k) → ∃ K, ∀ k, K ≤ k → ∀ x ∈ l, P x k
 | [], _ => ⟨0, fun _ _ _ h => by cases h⟩
 | y :: r, h => by
  obtain ⟨K, hK⟩ := h y (List.mem_cons_self ..)
  obtain ⟨K', hK'⟩ := all_mem r (fun x hx => h x (List.mem_cons_of_mem _ hx))
  refine ⟨max K K', fun k hk x hx => ?_⟩
  rcases List.mem_cons.1 hx with e | hx
  ·rw [e]; exact hK k (by omega)
  ·exact hK' k (by omega) x hx
theorem all_le {P : Int → Nat → Prop} (N : Nat) (h : ∀ a : Int, 0 ≤ a → a ≤ (N : Int) → ∃ K, ∀ k, K ≤ k → P a k) : ∃ K, ∀ k, K ≤ k → ∀ a : Int, 0 ≤ a → a ≤ (N : Int) → P a k := by
 obtain ⟨K, hK⟩ := all_mem (P := fun (n : Nat) k => P (n : Int) k) (List.range (N + 1)) (fun n hn => h n (by omega) (by have := List.mem_range.1 hn; omega))
 refine ⟨K, fun k hk a h0 h1 => ?_⟩
 obtain ⟨n, rfl⟩ := Int.eq_ofNat_of_zero_le h0
 exact hK k hk n (List.mem_range.2 (by omega))
mutual
def needVal : S25 → Int
 | ⟨_, _, s, l, ks⟩ => (s.size : Int) + ((l.length : Int) + needValS l) + szL ks
def needValS : List S25 → Int
 | [] => 0
 | x :: r => needVal x + needValS r
end
theorem needVal_eq (x : S25) : needVal x = (x.f2.size : Int) + ((x.f3.length : Int) + needValS x.f3) + szL x.f4 := by cases x; rw [needVal]
mutual
theorem needVal_nonneg : ∀ x : S25, 0 ≤ needVal x
 | ⟨_, _, s, l, ks⟩ => by
  have h1 := needValS_nonneg l
  have h2 := szL_nonneg ks
  rw [needVal]
  omega
theorem needValS_nonneg : ∀ l : List S25, 0 ≤ needValS l
 | [] => by rw [needValS]; omega
 | x :: r => by
  have h1 := needVal_nonneg x
  have h2 := needValS_nonneg r
  rw [needValS]
  omega
end
theorem needVal_mem : ∀ {l : List S25} {x : S25}, x ∈ l → needVal x ≤ needValS l
 | y :: r, x, h => by
  have h1 := needVal_nonneg y
  have h2 := needValS_nonneg r
  rw [needValS]
  rcases List.mem_cons.1 h with e | h
  ·rw [e]; omega
  ·have := needVal_mem h; omega
/-! Sizes. -/
theorem szValS_l [laws_szVal.Rec] (l : List S25) (hl : l.length ≤ 9223372036854775807)
  (hF : ∀ k, ∀ x ∈ l, ∀ a : Int, 0 ≤ a → a ≤ 1048576 → laws_szVal.Rec.f k x.f0 x.f1 x.f2 x.f3 x.f4 a = some (left (needVal x) a)) (d : Nat) : ∀ (i k : Nat) (a : Int), i + d = l.length → d < k → 0 ≤ a → a ≤ 1048576 →
  laws_szValS.l0 k l a (i : Int) = some (left (needValS (l.drop i)) a) := by
 induction d with
 | zero =>
  intro i k a hi hk h0 ha
  obtain ⟨k, rfl⟩ : ∃ m, k = m + 1 := ⟨k - 1, by omega⟩
  have h1 : ¬ (i : Int) < (l.length : Int) := by omega
  rw [List.drop_eq_nil_of_le (by omega), left_pos (by rw [needValS]; exact h0)]
  simp only [laws_szValS.l0, h1, if_false, needValS, Int.sub_zero]
 | succ d ih =>
  intro i k a hi hk h0 ha
  obtain ⟨k, rfl⟩ : ∃ m, k = m + 1 := ⟨k - 1, by omega⟩
  have hlt : i < l.length := by omega
  have h1 : (i : Int) < (l.length : Int) := by omega
  have h2 : (0 : Int) ≤ (i : Int) := by omega
  have h3 := next_i hlt hl
  have hn := needValS_nonneg (l.drop (i + 1))
  have hn0 := needVal_nonneg l[i]
  have hg : rd_T25 l (i : Int) = l[i] := rdD_cast _ hlt
  rw [drop_get hlt]
  simp only [laws_szValS.l0, h1, h2, h3, if_true, hg, needValS]
  rw [hF k l[i] (List.getElem_mem hlt) a h0 ha]
  simp only [Option.bind_some]
  by_cases h5 : needVal l[i] ≤ a
  ·rw [left_pos h5]
   simp only [show ¬ a - needVal l[i] < 0 by omega, if_false]
   rw [ih (i + 1) k (a - needVal l[i]) (by omega) (by omega) (by omega) (by omega)]
   congr 1
   unfold left
   split <;> split <;> omega
  ·rw [left_not h5, left_not (by omega)]
   rfl
theorem szValS_f [laws_szVal.Rec] (l : List S25) (hl : l.length ≤ maxLen)
  (hF : ∀ k, ∀ x ∈ l, ∀ a : Int, 0 ≤ a → a ≤ 1048576 → laws_szVal.Rec.f k x.f0 x.f1 x.f2 x.f3 x.f4 a = some (left (needVal x) a)) (k : Nat) (a : Int) (hk : l.length + 2 ≤ k) (h0 : 0 ≤ a) (ha : a ≤ 1048576) :
  laws_szValS.f k l a = some (left ((l.length : Int) + needValS l) a) := by
 unfold maxLen at hl
 unfold laws_szValS.f
 have hn := needValS_nonneg l
 rw [wrap64_id (by omega) (by omega)]
 by_cases h : a - (l.length : Int) < 0
 ·simp only [h, if_true]
  rw [left_not (by omega)]
 ·simp only [h, if_false]
  obtain ⟨k, rfl⟩ : ∃ m, k = m + 1 := ⟨k - 1, by omega⟩
  simp only [laws_szValS.j0]
  have hq := szValS_l l (by omega) hF l.length 0 k (a - (l.length : Int)) (by omega) (by omega) (by omega) (by omega)
  rw [List.drop_zero] at hq
  refine hq.trans ?_
  congr 1
  unfold left
  split <;> split <;> omega
theorem szVal (x : S25) (ho : ok25 x) : ∀ a : Int, 0 ≤ a → a ≤ 1048576 → Ev (fun k => laws_szVal.f k x.f0 x.f1 x.f2 x.f3 x.f4 a) (left (needVal x) a) := by
 induction ho with
 | mk x o0 o1 o2 o3 g3 o4 g4 ih =>
  intro a h0 ha
  obtain ⟨K, hK⟩ := all_mem x.f3 (P := fun y k => ∀ a : Int, 0 ≤ a → a ≤ ((1048576 : Nat) : Int) → laws_szVal.f k y.f0 y.f1 y.f2 y.f3 y.f4 a = some (left (needVal y) a)) (fun y hy => all_le 1048576 (fun a h0 h1 => ih y hy a h0 (by omega)))
  have hS : ∀ a : Int, 0 ≤ a → a ≤ 1048576 → Ev (fun k => @laws_szValS.f ⟨fun _ => laws_szVal.f k⟩ k x.f3 a) (left ((x.f3.length : Int) + needValS x.f3) a) := fun a h0 ha =>
   ⟨max K (x.f3.length + 2), fun k hk => @szValS_f ⟨fun _ => laws_szVal.f k⟩ x.f3 o3 (fun _ y hy a h0 ha => hK k (by omega) y hy a h0 (by omega)) k a (by omega) h0 ha⟩
  have hn3 := needValS_nonneg x.f3
  have hn4 := szL_nonneg x.f4
  unfold maxLen at o2 o4 g4
  rw [needVal_eq]
  refine Ev.succ ?_
  simp only [laws_szVal.f]
  rw [wrap64_id (by omega) (by omega)]
  by_cases h2 : a - (x.f2.size : Int) < 0
  ·simp only [h2, if_true]
   rw [left_not (by omega)]
   exact Ev.some
  simp only [h2, if_false]
  refine Ev.succ ?_
  simp only [laws_szVal.j0]
  refine Ev.bind (hS (a - (x.f2.size : Int)) (by omega) (by omega)) ?_
  by_cases h3 : (x.f3.length : Int) + needValS x.f3 ≤ a - (x.f2.size : Int)
  ·rw [left_pos h3]
   simp only [show ¬ a - (x.f2.size : Int) - ((x.f3.length : Int) + needValS x.f3) < 0 by omega, if_false]
   refine Ev.bind (szStringS x.f4 _ (by omega) (fun z hz => by have := g4 z hz; omega) (by omega) (by omega)) ?_
   by_cases h4 : szL x.f4 ≤ a - (x.f2.size : Int) - ((x.f3.length : Int) + needValS x.f3)
   ·rw [left_pos h4]
    simp only [show ¬ a - (x.f2.size : Int) - ((x.f3.length : Int) + needValS x.f3) - szL x.f4 < 0 by omega, if_false]
    refine Ev.cast Ev.some ?_
    rw [left_pos (by omega)]
    omega
   ·rw [left_not h4]
    exact Ev.cast Ev.some (left_not (by omega)).symm
  ·rw [left_not h3]
   exact Ev.cast Ev.some (left_not (by omega)).symm
/-! Copies. -/
mutual
def convVal : S25 → S29
 | ⟨a, b, s, l, ks⟩ => ⟨a, b, s, convValS l, ks⟩
def convValS : List S25 → List S29
 | [] => []
 | x :: r => convVal x :: convValS r
end
theorem convValS_map : ∀ l : List S25, convValS l = l.map convVal
 | [] => by rw [convValS]; rfl
 | x :: r => by rw [convValS, convValS_map r]; rfl
theorem convVal_eq (x : S25) : convVal x = ⟨x.f0, x.f1, x.f2, x.f3.map convVal, x.f4⟩ := by
 cases x
 rw [convVal, convValS_map]
def valT (y : S29) : Int × Int × ByteArray × List S29 × List ByteArray := (y.f0, y.f1, y.f2, y.f3, y.f4)
theorem toValS_l [laws_toVal.Rec] (l : List S25) (hl : l.length ≤ 9223372036854775807)
  (hF : ∀ k, ∀ x ∈ l, laws_toVal.Rec.f k x.f0 x.f1 x.f2 x.f3 x.f4 = some (valT (convVal x))) (d : Nat) : ∀ (i k : Nat) (y : List S29), i + d = l.length → d < k → y.length = l.length → y.take i = (l.map convVal).take i →
  laws_toValS.l0 k l y (i : Int) = some (l.map convVal) := by
 induction d with
 | zero =>
  intro i k y hi hk hy he
  obtain ⟨k, rfl⟩ : ∃ m, k = m + 1 := ⟨k - 1, by omega⟩
  have h1 : ¬ (i : Int) < (l.length : Int) := by omega
  have e : y = l.map convVal := by rwa [List.take_of_length_le (by omega), List.take_of_length_le (by simp; omega)] at he
  simp only [laws_toValS.l0, h1, if_false, e]
 | succ d ih =>
  intro i k y hi hk hy he
  obtain ⟨k, rfl⟩ : ∃ m, k = m + 1 := ⟨k - 1, by omega⟩
  have hlt : i < l.length := by omega
  have h1 : (i : Int) < (l.length : Int) := by omega
  have h1y : (i : Int) < (y.length : Int) := by omega
  have h2 : (0 : Int) ≤ (i : Int) := by omega
  have h3 := next_i hlt hl
  have hg : rd_T25 l (i : Int) = l[i] := rdD_cast _ hlt
  have hm : i < (l.map convVal).length := by simpa using hlt
  simp only [laws_toValS.l0, h1, h2, h3, if_true, hg]
  rw [hF k l[i] (List.getElem_mem hlt)]
  simp only [Option.bind_some, h1y, if_true, Int.toNat_natCast, valT]
  refine ih (i + 1) k _ (by omega) (by omega) (by simpa using hy) ?_
  have := take_set_step (l := y) (m := l.map convVal) (by omega) hm he
  rw [show (l.map convVal)[i] = convVal l[i] by simp] at this
  rw [show (⟨(convVal l[i]).f0, (convVal l[i]).f1, (convVal l[i]).f2, (convVal l[i]).f3, (convVal l[i]).f4⟩ : S29) = convVal l[i] by cases convVal l[i]; rfl]
  exact this
theorem toVal (x : S25) (ho : ok25 x) : needVal x ≤ 1048576 → Ev (fun k => laws_toVal.f k x.f0 x.f1 x.f2 x.f3 x.f4) (valT (convVal x)) := by
 induction ho with
 | mk x o0 o1 o2 o3 g3 o4 g4 ih =>
  intro hn
  rw [needVal_eq] at hn
  have hn3 := needValS_nonneg x.f3
  have hn4 := szL_nonneg x.f4
  have hn4' : (x.f4.length : Int) ≤ szL x.f4 := by unfold szL; have := szT_nonneg x.f4; omega
  obtain ⟨K, hK⟩ := all_mem x.f3 (P := fun y k => laws_toVal.f k y.f0 y.f1 y.f2 y.f3 y.f4 = some (valT (convVal y))) (fun y hy => ih y hy (by have := needVal_mem hy; omega))
  have hS : Ev (fun k => @laws_toValS.f ⟨fun _ => laws_toVal.f k⟩ k x.f3) (x.f3.map convVal) :=
   ⟨max K (x.f3.length + 1), fun k hk => by
    show @laws_toValS.f ⟨fun _ => laws_toVal.f k⟩ k x.f3 = _
    unfold laws_toValS.f
    rw [if_pos (by omega), if_pos (by omega)]
    exact @toValS_l ⟨fun _ => laws_toVal.f k⟩ x.f3 (by omega) (fun _ y hy => hK k (by omega) y hy) x.f3.length 0 k _ (by omega) (by omega) (by simp) (by simp)⟩
  refine Ev.succ ?_
  simp only [laws_toVal.f]
  refine Ev.bind hS (Ev.bind (toStringS x.f4 (by omega)) ?_)
  rw [convVal_eq]
  exact Ev.some
/-! Comparisons. -/
inductive fitVal : S29 → Prop
 | mk (y : S29) (h3 : y.f3.length ≤ 9223372036854775807) (g3 : ∀ z ∈ y.f3, fitVal z) (h4 : y.f4.length ≤ 9223372036854775807) (g4 : ∀ z ∈ y.f4, z.size ≤ 9223372036854775807) (h2 : y.f2.size ≤ 9223372036854775807) : fitVal y
theorem fit_convVal (x : S25) (ho : ok25 x) : fitVal (convVal x) := by
 induction ho with
 | mk x o0 o1 o2 o3 g3 o4 g4 ih =>
  unfold maxLen at o2 o3 o4 g4
  rw [convVal_eq]
  refine fitVal.mk _ (by simp only [List.length_map]; omega) (fun z hz => ?_) (by show x.f4.length ≤ _; omega) (fun z hz => by have := g4 z hz; omega) (by show x.f2.size ≤ _; omega)
  obtain ⟨y, hy, rfl⟩ := List.mem_map.1 hz
  exact ih y hy
theorem eqValS_l [laws_eqVal.Rec] (l : List S29) (hl : l.length ≤ 9223372036854775807)
  (hF : ∀ k, ∀ x ∈ l, laws_eqVal.Rec.f k x.f0 x.f1 x.f2 x.f3 x.f4 x.f0 x.f1 x.f2 x.f3 x.f4 = some true) (d : Nat) : ∀ (i k : Nat), i + d = l.length → d < k →
  laws_eqValS.l0 k l l (i : Int) = some true := by
 induction d with
 | zero =>
  intro i k hi hk
  obtain ⟨k, rfl⟩ : ∃ m, k = m + 1 := ⟨k - 1, by omega⟩
  have h1 : ¬ (i : Int) < (l.length : Int) := by omega
  simp only [laws_eqValS.l0, h1, if_false]
 | succ d ih =>
  intro i k hi hk
  obtain ⟨k, rfl⟩ : ∃ m, k = m + 1 := ⟨k - 1, by omega⟩
  have hlt : i < l.length := by omega
  have h1 : (i : Int) < (l.length : Int) := by omega
  have h2 : (0 : Int) ≤ (i : Int) := by omega
  have h3 := next_i hlt hl
  have hg : rd_T29 l (i : Int) = l[i] := rdD_cast _ hlt
  simp only [laws_eqValS.l0, h1, h2, h3, if_true, hg]
  rw [hF k l[i] (List.getElem_mem hlt)]
  simp only [Option.bind_some, if_true]
  exact ih (i + 1) k (by omega) (by omega)
theorem eqVal (y : S29) (hf : fitVal y) : Ev (fun k => laws_eqVal.f k y.f0 y.f1 y.f2 y.f3 y.f4 y.f0 y.f1 y.f2 y.f3 y.f4) true := by
 induction hf with
 | mk y o3 g3 o4 g4 o2 ih =>
  obtain ⟨K, hK⟩ := all_mem y.f3 (P := fun y k => laws_eqVal.f k y.f0 y.f1 y.f2 y.f3 y.f4 y.f0 y.f1 y.f2 y.f3 y.f4 = some true) (fun z hz => by obtain ⟨K, h⟩ := ih z hz; exact ⟨K, h⟩)
  have hS : Ev (fun k => @laws_eqValS.f ⟨fun _ => laws_eqVal.f k⟩ k y.f3 y.f3) true :=
   ⟨max K (y.f3.length + 2), fun k hk => by
    show @laws_eqValS.f ⟨fun _ => laws_eqVal.f k⟩ k y.f3 y.f3 = _
    unfold laws_eqValS.f
    rw [if_pos rfl]
    obtain ⟨m, rfl⟩ : ∃ m, k = m + 1 := ⟨k - 1, by omega⟩
    simp only [laws_eqValS.j0]
    exact @eqValS_l ⟨fun _ => laws_eqVal.f (m + 1)⟩ y.f3 o3 (fun _ z hz => hK (m + 1) (by omega) z hz) y.f3.length 0 m (by omega) (by omega)⟩
  refine Ev.succ ?_
  simp only [laws_eqVal.f, if_true]
  refine Ev.succ ?_
  simp only [laws_eqVal.j0, if_true]
  refine Ev.succ ?_
  simp only [laws_eqVal.j1, if_true]
  refine Ev.succ ?_
  simp only [laws_eqVal.j2]
  refine Ev.bind hS ?_
  simp only [if_true]
  refine Ev.bind (eqStringS y.f4 y.f4 o4) ?_
  simp only [decide_true, if_true]
  exact Ev.some
theorem Ev.noV {α : Type} {c : Prop} [Decidable c] {g f : Nat → Option α} {r : α} (hc : ¬ c) (h : Ev f r) : Ev (fun k => if c then g k else f k) r := by
 simp only [hc, if_false]; exact h
/-! How many marks a value takes; the value behind them. -/
mutual
def ctV : S29 → Int
 | ⟨_, _, _, l, ks⟩ => 3 + ctVS l + (ks.length : Int)
def ctVS : List S29 → Int
 | [] => 0
 | x :: r => ctV x + ctVS r
end
mutual
noncomputable def mV (n : Int) : S29 → S29
 | ⟨_, _, _, l, ks⟩ => ⟨n, n + 1, mkT (n + 2), mVS (n + 3) l, mks (n + 3 + ctVS l) ks.length⟩
noncomputable def mVS (n : Int) : List S29 → List S29
 | [] => []
 | x :: r => mV n x :: mVS (n + ctV x) r
end
theorem ctV_eq (x : S29) : ctV x = 3 + ctVS x.f3 + (x.f4.length : Int) := by cases x; rw [ctV]
theorem mV_eq (n : Int) (x : S29) : mV n x = ⟨n, n + 1, mkT (n + 2), mVS (n + 3) x.f3, mks (n + 3 + ctVS x.f3) x.f4.length⟩ := by cases x; rw [mV]
mutual
theorem ctV_nonneg : ∀ x : S29, 3 ≤ ctV x
 | ⟨_, _, _, l, ks⟩ => by
  have := ctVS_nonneg l
  rw [ctV]
  omega
theorem ctVS_nonneg : ∀ l : List S29, 0 ≤ ctVS l
 | [] => by rw [ctVS]; omega
 | x :: r => by
  have h1 := ctV_nonneg x
  have h2 := ctVS_nonneg r
  rw [ctVS]
  omega
end
theorem ctVS_append : ∀ l m : List S29, ctVS (l ++ m) = ctVS l + ctVS m
 | [], m => by rw [ctVS, List.nil_append]; omega
 | x :: r, m => by rw [List.cons_append, ctVS, ctVS, ctVS_append r m]; omega
theorem ctVS_len : ∀ l : List S29, (l.length : Int) ≤ ctVS l
 | [] => by rw [ctVS]; exact Int.le_refl _
 | x :: r => by
  have h1 := ctV_nonneg x
  have h2 := ctVS_len r
  rw [ctVS, List.length_cons]
  omega
theorem mVS_length : ∀ (l : List S29) (n : Int), (mVS n l).length = l.length
 | [], _ => by rw [mVS]
 | x :: r, n => by rw [mVS, List.length_cons, List.length_cons, mVS_length r]
theorem mVS_get : ∀ (l : List S29) (n : Int) (i : Nat) (h : i < (mVS n l).length) (h' : i < l.length), (mVS n l)[i] = mV (n + ctVS (l.take i)) l[i]
 | [], _, _, _, h' => absurd h' (by simp)
 | x :: r, n, 0, _, _ => by simp only [mVS, List.getElem_cons_zero, List.take_zero, ctVS, Int.add_zero]
 | x :: r, n, i + 1, h, h' => by
  have := mVS_get r (n + ctV x) i (by simpa [mVS] using h) (by simpa using h')
  simp only [mVS, List.getElem_cons_succ, List.take_succ_cons, ctVS]
  rw [this]
  congr 1
  omega
mutual
theorem mark_el : ∀ (x : S29) (n : Int), 0 ≤ n → n + ctV x ≤ 549755813888 → Ev (fun k => laws_markValS.el (laws_markValS.f k) k x n) (n + ctV x, mV n x)
 | ⟨a, b, s, l, ks⟩, n, h0, h => by
  rw [ctV] at h
  have hc := ctVS_nonneg l
  have h1 : wrap64 (n + 1) = n + 1 := wrap64_id (by omega) (by omega)
  have h2 : wrap64 (n + 1 + 1) = n + 2 := by rw [wrap64_id (by omega) (by omega)]; omega
  have h3 : wrap64 (n + 2 + 1) = n + 3 := by rw [wrap64_id (by omega) (by omega)]; omega
  have hl : Ev (fun k => laws_markValS.f k l (n + 3)) (n + 3 + ctVS l, mVS (n + 3) l) := Ev.succ (mark_l l (n + 3) (by omega) (by omega))
  simp only [laws_markValS.el, h1, h2, h3]
  refine Ev.bind (markText (n + 2) (by omega)) (Ev.bind hl (Ev.bind (markStringS ks (n + 3 + ctVS l) (by omega) (by omega)) ?_))
  refine Ev.cast Ev.some ?_
  rw [mV, ctV]
  simp only [Prod.mk.injEq, and_true]
  omega
theorem mark_l : ∀ (l : List S29) (n : Int), 0 ≤ n → n + ctVS l ≤ 549755813888 → Ev (fun k => laws_markValS.l (laws_markValS.f k) k l n) (n + ctVS l, mVS n l)
 | [], n, h0, h => by
  simp only [laws_markValS.l]
  rw [ctVS, mVS, Int.add_zero]
  exact Ev.some
 | x :: r, n, h0, h => by
  rw [ctVS] at h
  have h1 := ctV_nonneg x
  have h2 := ctVS_nonneg r
  simp only [laws_markValS.l]
  refine Ev.bind (mark_el x n h0 (by omega)) (Ev.bind (mark_l r (n + ctV x) (by omega) (by omega)) ?_)
  refine Ev.cast Ev.some ?_
  rw [ctVS, mVS]
  simp only [Prod.mk.injEq, and_true]
  omega
end
theorem markValS (l : List S29) (n : Int) (h0 : 0 ≤ n) (h : n + ctVS l ≤ 549755813888) : Ev (fun k => laws_markValS.f k l n) (n + ctVS l, mVS n l) := Ev.succ (mark_l l n h0 h)
theorem held_l (l : List S29) (n : Int) (h0 : 0 ≤ n) (h : n + ctVS l ≤ 549755813888)
  (ih : ∀ x ∈ l, ∀ m : Int, 0 ≤ m → m + ctVS x.f3 ≤ 549755813888 → Ev (fun k => laws_heldValS.f k (mVS m x.f3) m) (m + ctVS x.f3)) (d : Nat) : ∀ i : Nat, i + d = l.length →
  Ev (fun k => laws_heldValS.l0 k (mVS n l) (n + ctVS (l.take i)) (i : Int)) (n + ctVS l) := by
 have hlen := mVS_length l n
 have hle := ctVS_len l
 induction d with
 | zero =>
  intro i hi
  have h1 : ¬ (i : Int) < ((mVS n l).length : Int) := by omega
  refine Ev.succ ?_
  simp only [laws_heldValS.l0, h1, if_false]
  refine Ev.cast Ev.some ?_
  rw [List.take_of_length_le (by omega)]
 | succ d ihd =>
  intro i hi
  have hlt : i < l.length := by omega
  have hlm : i < (mVS n l).length := by omega
  have h1 : (i : Int) < ((mVS n l).length : Int) := by omega
  have h2 : (0 : Int) ≤ (i : Int) := by omega
  have h3 := next_i hlm (by omega)
  have hg : rd_T29 (mVS n l) (i : Int) = mV (n + ctVS (l.take i)) l[i] := by
   rw [show rd_T29 (mVS n l) (i : Int) = (mVS n l)[i] from rdD_cast _ hlm, mVS_get l n i hlm hlt]
  have hsplit : ctVS l = ctVS (l.take i) + (ctV l[i] + ctVS (l.drop (i + 1))) := by
   have := ctVS_append (l.take i) (l.drop i)
   rw [List.take_append_drop, drop_get hlt, ctVS] at this
   exact this
  have hnext : ctVS (l.take (i + 1)) = ctVS (l.take i) + ctV l[i] := by
   rw [List.take_succ_eq_append_getElem hlt, ctVS_append, ctVS, ctVS]
   omega
  have b1 := ctVS_nonneg (l.take i)
  have b2 := ctVS_nonneg (l.drop (i + 1))
  have b3 := ctVS_nonneg l[i].f3
  have e1 := ctV_eq l[i]
  generalize hm : n + ctVS (l.take i) = m at *
  have w1 : wrap64 (m + 1) = m + 1 := wrap64_id (by omega) (by omega)
  have w2 : wrap64 (m + 1 + 1) = m + 2 := by rw [wrap64_id (by omega) (by omega)]; omega
  have w3 : wrap64 (m + 2 + 1) = m + 3 := by rw [wrap64_id (by omega) (by omega)]; omega
  rw [mV_eq] at hg
  refine Ev.succ ?_
  simp only [laws_heldValS.l0, h1, if_true]
  refine Ev.succ ?_
  simp only [laws_heldValS.j1, h1, h2, hg, if_true]
  refine Ev.succ ?_
  simp only [laws_heldValS.j2, h1, h2, hg, w1, if_true]
  refine Ev.succ ?_
  simp only [laws_heldValS.j3, h1, h2, hg, w2, if_true]
  refine Ev.bind (markText (m + 2) (by omega)) ?_
  simp only [if_true]
  refine Ev.succ ?_
  simp only [laws_heldValS.j4, h1, h2, hg, w3, if_true]
  refine Ev.bind (ih _ (List.getElem_mem hlt) (m + 3) (by omega) (by omega)) ?_
  refine Ev.noV (by omega) ?_
  refine Ev.bind (heldStringS (m + 3 + ctVS l[i].f3) l[i].f4.length (by omega) (by omega)) ?_
  refine Ev.noV (by omega) ?_
  simp only [h3]
  have := ihd (i + 1) (by omega)
  rw [hnext] at this
  rw [show m + 3 + ctVS l[i].f3 + (l[i].f4.length : Int) = n + (ctVS (l.take i) + ctV l[i]) by omega]
  exact this
theorem held_x (x : S29) (hf : fitVal x) : ∀ m : Int, 0 ≤ m → m + ctVS x.f3 ≤ 549755813888 → Ev (fun k => laws_heldValS.f k (mVS m x.f3) m) (m + ctVS x.f3) := by
 induction hf with
 | mk y o3 g3 o4 g4 o2 ih =>
  intro m h0 h
  refine Ev.succ ?_
  have := held_l y.f3 m h0 h (fun x hx => ih x hx) y.f3.length 0 (by omega)
  rw [List.take_zero, ctVS, Int.add_zero] at this
  simp only [laws_heldValS.f]
  exact this
def ctR (x : S29) : Int := ctVS x.f3 + (x.f4.length : Int)
theorem markVal (x : S29) (a b : Int) (s : ByteArray) (n : Int) (h0 : 0 ≤ n) (h : n + ctR x ≤ 549755813888) : Ev (fun k => laws_markVal.f k a b s x.f3 x.f4 n) (n + ctR x, mVS n x.f3, mks (n + ctVS x.f3) x.f4.length) := by
 have hc := ctVS_nonneg x.f3
 unfold ctR at *
 unfold laws_markVal.f
 refine Ev.bind (markValS x.f3 n h0 (by omega)) (Ev.bind (markStringS x.f4 (n + ctVS x.f3) (by omega) (by omega)) ?_)
 refine Ev.cast Ev.some ?_
 simp only [Prod.mk.injEq, and_true]
 omega
theorem heldVal (x : S29) (hf : fitVal x) (a b : Int) (s : ByteArray) (n : Int) (h0 : 0 ≤ n) (h : n + ctR x ≤ 549755813888) : Ev (fun k => laws_heldVal.f k a b s (mVS n x.f3) (mks (n + ctVS x.f3) x.f4.length) n) (n + ctR x) := by
 have hc := ctVS_nonneg x.f3
 unfold ctR at *
 unfold laws_heldVal.f
 refine Ev.bind (held_x x hf n h0 (by omega)) ?_
 refine Ev.noV (by omega) ?_
 refine Ev.bind (heldStringS (n + ctVS x.f3) x.f4.length (by omega) (by omega)) ?_
 refine Ev.noV (by omega) ?_
 refine Ev.cast Ev.some ?_
 omega
mutual
theorem ctV_conv : ∀ x : S25, ctV (convVal x) ≤ 3 + 4 * needVal x
 | ⟨_, _, s, l, ks⟩ => by
  have h1 := ctVS_conv l
  have h2 := szT_nonneg ks
  have h3 := needValS_nonneg l
  rw [convVal, ctV, needVal]
  unfold szL
  omega
theorem ctVS_conv : ∀ l : List S25, ctVS (convValS l) ≤ 3 * (l.length : Int) + 4 * needValS l
 | [] => by rw [convValS, ctVS, needValS]; simp
 | x :: r => by
  have h1 := ctV_conv x
  have h2 := ctVS_conv r
  rw [convValS, ctVS, needValS, List.length_cons]
  omega
end
theorem ctR_conv (x : S25) : ctR (convVal x) ≤ 4 * needVal x := by
 have h1 := ctV_conv x
 have h2 := ctV_eq (convVal x)
 unfold ctR
 omega
theorem ctR_nonneg (x : S29) : 0 ≤ ctR x := by
 have := ctVS_nonneg x.f3
 unfold ctR
 omega
inductive smallV : S29 → Prop
 | mk (y : S29) (h3 : y.f3.length ≤ 1048576) (g3 : ∀ z ∈ y.f3, smallV z) (h4 : y.f4.length ≤ 1048576) : smallV y
theorem small_conv (x : S25) (ho : ok25 x) : needVal x ≤ 1048576 → smallV (convVal x) := by
 induction ho with
 | mk x o0 o1 o2 o3 g3 o4 g4 ih =>
  intro hn
  rw [needVal_eq] at hn
  have hn3 := needValS_nonneg x.f3
  have hn4 := szT_nonneg x.f4
  unfold szL at hn
  rw [convVal_eq]
  refine smallV.mk _ (by rw [List.length_map]; omega) (fun z hz => ?_) (by show x.f4.length ≤ _; omega)
  obtain ⟨y, hy, rfl⟩ := List.mem_map.1 hz
  exact ih y hy (by have := needVal_mem hy; omega)
theorem val_eta (z : S29) : (⟨(valT z).1, (valT z).2.1, (valT z).2.2.1, (valT z).2.2.2.1, (valT z).2.2.2.2⟩ : S29) = z := by cases z; rfl
theorem spec_copy_l (y : S29) (h3 : y.f3.length ≤ 1048576) (ih : ∀ z ∈ y.f3, Ev (fun k => spec_l2Copy.f k z.f0 z.f1 z.f2 z.f3 z.f4) (valT z)) (d : Nat) : ∀ i : Nat, i + d = y.f3.length →
  Ev (fun k => spec_l2Copy.l0 k (i : Int) y.f0 y.f1 y.f2 y.f3 y.f4 y.f0 y.f1 y.f2 (y.f3.take i) y.f4) (valT y) := by
 induction d with
 | zero =>
  intro i hi
  have h1 : ¬ (i : Int) < (y.f3.length : Int) := by omega
  refine Ev.succ ?_
  simp only [spec_l2Copy.l0, h1, if_false]
  rw [List.take_of_length_le (by omega)]
  exact Ev.some
 | succ d ihd =>
  intro i hi
  have hlt : i < y.f3.length := by omega
  have h1 : (i : Int) < (y.f3.length : Int) := by omega
  have h2 : (0 : Int) ≤ (i : Int) := by omega
  have hn := next_i hlt (by omega)
  have hg : rd_T29 y.f3 (i : Int) = y.f3[i] := rdD_cast _ hlt
  refine Ev.succ ?_
  simp only [spec_l2Copy.l0, h1, h2, if_true, hg, hn]
  refine Ev.bind (ih _ (List.getElem_mem hlt)) ?_
  have hlen : (y.f3.take i).length < 1759218604441 := by rw [List.length_take]; omega
  simp only [hlen, if_true, val_eta]
  have := ihd (i + 1) (by omega)
  rw [List.take_succ_eq_append_getElem hlt] at this
  exact this
theorem spec_copy (y : S29) (hs : smallV y) : Ev (fun k => spec_l2Copy.f k y.f0 y.f1 y.f2 y.f3 y.f4) (valT y) := by
 induction hs with
 | mk y h3 g3 h4 ih =>
  refine Ev.succ ?_
  simp only [spec_l2Copy.f, Option.bind_some, List.length_nil, List.nil_append]
  rw [show (fun k => if 0 + y.f4.length < 8796093022208 then spec_l2Copy.l0 k 0 y.f0 y.f1 y.f2 y.f3 y.f4 y.f0 y.f1 y.f2 [] y.f4 else none) = fun k => spec_l2Copy.l0 k 0 y.f0 y.f1 y.f2 y.f3 y.f4 y.f0 y.f1 y.f2 [] y.f4 from funext fun k => if_pos (by omega)]
  have := spec_copy_l y h3 (fun z hz => ih z hz) y.f3.length 0 (by omega)
  simpa using this
theorem impl_copy_l (y : S29) (h3 : y.f3.length ≤ 1048576) (ih : ∀ z ∈ y.f3, Ev (fun k => impl_copyVal.f k z.f0 z.f1 z.f2 z.f3 z.f4) (valT z)) (d : Nat) : ∀ i : Nat, i + d = y.f3.length →
  Ev (fun k => impl_copyVal.l0 k y.f3 (y.f3.length : Int) (i : Int) y.f0 y.f1 y.f2 (y.f3.take i) y.f4) (valT y) := by
 induction d with
 | zero =>
  intro i hi
  have h1 : ¬ (i : Int) < (y.f3.length : Int) := by omega
  refine Ev.succ ?_
  simp only [impl_copyVal.l0, h1, if_false]
  rw [List.take_of_length_le (by omega)]
  exact Ev.some
 | succ d ihd =>
  intro i hi
  have hlt : i < y.f3.length := by omega
  have h1 : (i : Int) < (y.f3.length : Int) := by omega
  have h2 : (0 : Int) ≤ (i : Int) := by omega
  have hn := next_i hlt (by omega)
  have hg : rd_T29 y.f3 (i : Int) = y.f3[i] := rdD_cast _ hlt
  refine Ev.succ ?_
  simp only [impl_copyVal.l0, h1, h2, if_true, hg, hn]
  refine Ev.bind (ih _ (List.getElem_mem hlt)) ?_
  have hlen : (y.f3.take i).length < 1759218604441 := by rw [List.length_take]; omega
  simp only [hlen, if_true, val_eta]
  have := ihd (i + 1) (by omega)
  rw [List.take_succ_eq_append_getElem hlt] at this
  exact this
theorem impl_copy (y : S29) (hs : smallV y) : Ev (fun k => impl_copyVal.f k y.f0 y.f1 y.f2 y.f3 y.f4) (valT y) := by
 induction hs with
 | mk y h3 g3 h4 ih =>
  have hc : slices_Clone_string_string.f y.f4 = some y.f4 := by
   unfold slices_Clone_string_string.f
   simp [show y.f4.length < 8796093022208 by omega]
  refine Ev.succ ?_
  simp only [impl_copyVal.f, hc, Option.bind_some]
  have := impl_copy_l y h3 (fun z hz => ih z hz) y.f3.length 0 (by omega)
  simpa using this
def zV : S29 := ⟨0, 0, ⟨#[]⟩, [], []⟩
def atM (y : S29) (key : ByteArray) : S29 × Bool := if y.f0 = 5 then (match y.f4.findIdx? (fun s => decide (s = key)) with
 | some j => if h : j < y.f3.length then (y.f3[j], true) else (zV, false)
 | none => (zV, false)) else (zV, false)
def t6 (p : S29 × Bool) : Int × Int × ByteArray × List S29 × List ByteArray × Bool := (p.1.f0, p.1.f1, p.1.f2, p.1.f3, p.1.f4, p.2)
theorem atM_mem (y : S29) (key : ByteArray) (P : S29 → Prop) (h0 : P zV) (h : ∀ z ∈ y.f3, P z) : P (atM y key).1 := by
 unfold atM
 split
 ·split
  ·split
   ·exact h _ (List.getElem_mem _)
   ·exact h0
  ·exact h0
 ·exact h0
theorem find_hit {l : List ByteArray} {key : ByteArray} {i : Nat} (h : i < l.length) (he : l[i] = key) (hn : ∀ j (hj : j < l.length), j < i → l[j] ≠ key) : l.findIdx? (fun s => decide (s = key)) = some i :=
 List.findIdx?_eq_some_iff_getElem.2 ⟨h, by simpa using he, fun j hj => by simpa using hn j (by omega) hj⟩
theorem find_no {l : List ByteArray} {key : ByteArray} {m : Nat} (hn : ∀ j (hj : j < l.length), j < m → l[j] ≠ key) : ∀ j, l.findIdx? (fun s => decide (s = key)) = some j → m ≤ j := by
 intro j hj
 obtain ⟨h1, h2, _⟩ := List.findIdx?_eq_some_iff_getElem.1 hj
 by_cases h : m ≤ j
 ·exact h
 ·exact absurd (by simpa using h2) (hn j h1 (by omega))
theorem spec_at_l (y : S29) (key : ByteArray) (h3 : y.f3.length ≤ 1048576) (h4 : y.f4.length ≤ 1048576) (g3 : ∀ z ∈ y.f3, smallV z) (d : Nat) : ∀ i : Nat, y.f4.length ≤ i + d → (∀ j (hj : j < y.f4.length), j < i → y.f4[j] ≠ key) →
  Ev (fun k => spec_AtKey.l0 k key (i : Int) y.f0 y.f1 y.f2 y.f3 y.f4) (t6 (atM y key)) := by
 have stop : ∀ (i : Nat), (∀ j, y.f0 = 5 → y.f4.findIdx? (fun s => decide (s = key)) = some j → y.f3.length ≤ j) → Ev (fun k => spec_AtKey.j1 k key (i : Int) false y.f0 y.f1 y.f2 y.f3 y.f4) (t6 (atM y key)) := by
  intro i hj
  refine Ev.succ ?_
  simp only [spec_AtKey.j1, Bool.false_eq_true, if_false]
  refine Ev.cast Ev.some ?_
  have e : atM y key = (zV, false) := by
   unfold atM
   split
   next k5 =>
    split
    next j hq => rw [dif_neg (by have := hj j k5 hq; omega)]
    next => rfl
   next => rfl
  rw [e]
  rfl
 induction d with
 | zero =>
  intro i hi hn
  have h1 : ¬ (i : Int) < (y.f4.length : Int) := by omega
  refine Ev.succ ?_
  simp only [spec_AtKey.l0, h1, if_false]
  refine stop i (fun j _ hj => ?_)
  have := find_no hn j hj
  obtain ⟨h, _, _⟩ := List.findIdx?_eq_some_iff_getElem.1 hj
  omega
 | succ d ihd =>
  intro i hi hn
  refine Ev.succ ?_
  by_cases h1 : (i : Int) < (y.f4.length : Int)
  ·have hlt : i < y.f4.length := by omega
   by_cases h2 : (i : Int) < (y.f3.length : Int)
   ·have hl3 : i < y.f3.length := by omega
    have hz : (0 : Int) ≤ (i : Int) := by omega
    have hnx := next_i hlt (by omega)
    have hg : rd_T29 y.f3 (i : Int) = y.f3[i] := rdD_cast _ hl3
    simp only [spec_AtKey.l0, h1, h2, if_true]
    by_cases k5 : y.f0 = 5
    ·rw [show (y.f0 == 5) = true by simpa using k5]
     refine Ev.succ ?_
     simp only [spec_AtKey.j1, h1, h2, hz, if_true, rdOf_cast _ hlt, toList_inj, hg, hnx]
     by_cases hk : y.f4[i] = key
     ·simp only [hk, if_true]
      refine Ev.bind (spec_copy _ (g3 _ (List.getElem_mem hl3))) ?_
      refine Ev.cast Ev.some ?_
      have : atM y key = (y.f3[i], true) := by
       unfold atM
       rw [if_pos k5, find_hit hlt hk hn]
       simp only [dif_pos hl3]
      rw [this]
      rfl
     ·simp only [hk, if_false]
      refine ihd (i + 1) (by omega) (fun j hj hji => ?_)
      by_cases hij : j = i
      ·subst hij; exact hk
      ·exact hn j hj (by omega)
    ·rw [show (y.f0 == 5) = false by simpa using k5]
     exact stop i (fun j h5 _ => absurd h5 k5)
   ·simp only [spec_AtKey.l0, h1, h2, if_true, if_false]
    refine stop i (fun j _ hj => ?_)
    have := find_no hn j hj
    omega
  ·simp only [spec_AtKey.l0, h1, if_false]
   refine stop i (fun j _ hj => ?_)
   have := find_no hn j hj
   obtain ⟨h, _, _⟩ := List.findIdx?_eq_some_iff_getElem.1 hj
   omega
theorem spec_at (y : S29) (key : ByteArray) (hs : smallV y) : Ev (fun k => spec_AtKey.f k y.f0 y.f1 y.f2 y.f3 y.f4 key) (t6 (atM y key)) := by
 cases hs with
 | mk y h3 g3 h4 =>
  unfold spec_AtKey.f
  exact spec_at_l y key h3 h4 g3 y.f4.length 0 (by omega) (fun j _ hj => absurd hj (by omega))
theorem index_l (l : List ByteArray) (key : ByteArray) (hl : l.length ≤ 1048576) (d : Nat) : ∀ i : Nat, i + d = l.length → (∀ j (hj : j < l.length), j < i → l[j] ≠ key) →
  Ev (fun k => slices_Index_string_string.l0 k l key (l.length : Int) (i : Int)) (match l.findIdx? (fun s => decide (s = key)) with | some j => (j : Int) | none => -1) := by
 induction d with
 | zero =>
  intro i hi hn
  have h1 : ¬ (i : Int) < (l.length : Int) := by omega
  refine Ev.succ ?_
  simp only [slices_Index_string_string.l0, h1, if_false]
  refine Ev.cast Ev.some ?_
  cases hq : l.findIdx? (fun s => decide (s = key)) with
  | none => rfl
  | some j =>
   have := find_no hn j hq
   obtain ⟨h, _, _⟩ := List.findIdx?_eq_some_iff_getElem.1 hq
   omega
 | succ d ihd =>
  intro i hi hn
  have hlt : i < l.length := by omega
  have h1 : (i : Int) < (l.length : Int) := by omega
  have hz : (0 : Int) ≤ (i : Int) := by omega
  have hnx := next_i hlt (by omega)
  refine Ev.succ ?_
  simp only [slices_Index_string_string.l0, h1, hz, if_true, rdOf_cast _ hlt, toList_inj, hnx]
  by_cases hk : l[i] = key
  ·simp only [hk, if_true]
   refine Ev.cast Ev.some ?_
   rw [find_hit hlt hk hn]
  ·have hk' : ¬ key = l[i] := fun e => hk e.symm
   simp only [hk', if_false]
   refine ihd (i + 1) (by omega) (fun j hj hji => ?_)
   by_cases hij : j = i
   ·subst hij; exact hk
   ·exact hn j hj (by omega)
theorem impl_at (y : S29) (key : ByteArray) (hs : smallV y) : Ev (fun k => impl_AtKey.f k y.f0 y.f1 y.f2 y.f3 y.f4 key) (t6 (atM y key)) := by
 cases hs with
 | mk y h3 g3 h4 =>
  have hi : Ev (fun k => slices_Index_string_string.f k y.f4 key) _ := index_l y.f4 key h4 y.f4.length 0 (by omega) (fun j _ hj => absurd hj (by omega))
  have hw : wrap64 ((y.f3.length : Int) - 1) = (y.f3.length : Int) - 1 := wrap64_id (by omega) (by omega)
  unfold impl_AtKey.f
  refine Ev.bind hi ?_
  by_cases k5 : y.f0 = 5
  ·simp only [k5, if_true, hw]
   cases hq : y.f4.findIdx? (fun s => decide (s = key)) with
   | none =>
    have e : atM y key = (zV, false) := by unfold atM; rw [if_pos k5, hq]
    rw [e]
    have hr : impl_inRange.f (-1) 0 ((y.f3.length : Int) - 1) = some false := by
     unfold impl_inRange.f
     simp
    simp only [hr, Option.bind_some, Bool.false_eq_true, if_false]
    exact Ev.some
   | some j =>
    by_cases hj : j < y.f3.length
    ·have e : atM y key = (y.f3[j], true) := by unfold atM; rw [if_pos k5, hq]; simp only [dif_pos hj]
     rw [e]
     have hr : impl_inRange.f (j : Int) 0 ((y.f3.length : Int) - 1) = some true := by
      unfold impl_inRange.f
      simp
      omega
     have hg : rd_T29 y.f3 (j : Int) = y.f3[j] := rdD_cast _ hj
     simp only [hr, Option.bind_some, if_true, show (0 : Int) ≤ (j : Int) by omega, show (j : Int) < (y.f3.length : Int) by omega, hg]
     refine Ev.bind (impl_copy _ (g3 _ (List.getElem_mem hj))) ?_
     exact Ev.some
    ·have e : atM y key = (zV, false) := by unfold atM; rw [if_pos k5, hq]; simp only [dif_neg hj]
     rw [e]
     have hr : impl_inRange.f (j : Int) 0 ((y.f3.length : Int) - 1) = some false := by
      unfold impl_inRange.f
      simp
      omega
     simp only [hr, Option.bind_some, Bool.false_eq_true, if_false]
     exact Ev.some
  ·simp only [k5, if_false]
   have e : atM y key = (zV, false) := by unfold atM; rw [if_neg k5]
   rw [e]
   exact Ev.some
end Go.Proofs.Ytglhniiabhknoaa.Pure
