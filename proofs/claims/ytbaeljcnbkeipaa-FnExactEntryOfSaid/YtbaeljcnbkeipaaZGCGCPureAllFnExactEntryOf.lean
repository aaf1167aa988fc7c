/- What the functions come to. -/
import Derived.Test.YtbaeljcnbkeipaaZGCAux
import Derived.Test.YtbaeljcnbkeipaaZGCPGCx0
import Derived.Test.YtbaeljcnbkeipaaZGCPGCx1
import Derived.Test.YtbaeljcnbkeipaaZGCPGCx4
import Derived.Test.YtbaeljcnbkeipaaZGCPGCx6
import Derived.Test.YtbaeljcnbkeipaaZGCOGC
set_option linter.unusedVariables false
set_option linter.unusedSimpArgs false
namespace Go.Proofs.Ytbaeljcnbkeipaa.Pure
open Go.RowKit Go.Proofs.Ytbaeljcnbkeipaa.PGC Go.Proofs.YtbaeljcnbkeipaaW.PrintWords Go.Proofs.YtbaeljcnbkeipaaW.PrintLast Go.Proofs.Ytbaeljcnbkeipaa.Aux
theorem szStringS_l (l : List ByteArray) (hl : l.length ≤ 9223372036854775807) (hs : ∀ x ∈ l, x.size ≤ 9223372036854775807) (d : Nat) : ∀ (i : Nat) (a : Int), i + d = l.length → 0 ≤ a → a ≤ 9223372036854775807 →
  Ev (fun k => laws_szStringS.l0 k l a (i : Int)) (left (szT (l.drop i)) a) := by
 induction d with
 | zero =>
  intro i a hi h0 ha
  have h1 : ¬ (i : Int) < (l.length : Int) := by omega
  refine Ev.succ ?_
  rw [List.drop_eq_nil_of_le (by omega), left_pos (by simpa [szT] using h0)]
  simp only [laws_szStringS.l0, h1, if_false, szT, Int.sub_zero]
  exact Ev.some
 | succ d ih =>
  intro i a hi h0 ha
  have hlt : i < l.length := by omega
  have h1 : (i : Int) < (l.length : Int) := by omega
  have h2 : (0 : Int) ≤ (i : Int) := by omega
  have h3 := next_i hlt hl
  have hx := hs _ (List.getElem_mem hlt)
  have h4 : wrap64 (a - (l[i].size : Int)) = a - (l[i].size : Int) := wrap64_id (by omega) (by omega)
  have hn := szT_nonneg (l.drop (i + 1))
  refine Ev.succ ?_
  rw [drop_get hlt]
  simp only [laws_szStringS.l0, h1, h2, h3, if_true, rdOf_cast _ hlt, h4, szT]
  by_cases h5 : a - (l[i].size : Int) < 0
  ·simp only [h5, if_true]
   rw [left_not (by omega)]
   exact Ev.some
  ·simp only [h5, if_false]
   refine Ev.cast (ih (i + 1) (a - (l[i].size : Int)) (by omega) (by omega) (by omega)) ?_
   unfold left
   split <;> split <;> omega
theorem szStringS (l : List ByteArray) (a : Int) (hl : l.length ≤ 9223372036854775807) (hs : ∀ x ∈ l, x.size ≤ 9223372036854775807) (h0 : 0 ≤ a) (ha : a ≤ 9223372036854775807) : Ev (fun k => laws_szStringS.f k l a) (left (szL l) a) := by
 unfold laws_szStringS.f
 have hn := szT_nonneg l
 rw [wrap64_id (by omega) (by omega)]
 by_cases h : a - (l.length : Int) < 0
 ·simp only [h, if_true]
  rw [left_not (by unfold szL; omega)]
  exact Ev.some
 ·simp only [h, if_false]
  refine Ev.succ ?_
  simp only [laws_szStringS.j0]
  refine Ev.cast (szStringS_l l hl hs l.length 0 (a - (l.length : Int)) (by omega) (by omega) (by omega)) ?_
  unfold left szL
  rw [List.drop_zero]
  split <;> split <;> omega
theorem toStringS_l (l : List ByteArray) (hl : l.length ≤ 9223372036854775807) (d : Nat) : ∀ (i : Nat) (x : List ByteArray), i + d = l.length → x.length = l.length → x.take i = l.take i →
  Ev (fun k => laws_toStringS.l0 k l x (i : Int)) l := by
 induction d with
 | zero =>
  intro i x hi hx he
  have h1 : ¬ (i : Int) < (l.length : Int) := by omega
  have e : x = l := by rwa [List.take_of_length_le (by omega), List.take_of_length_le (by omega)] at he
  refine Ev.succ ?_
  simp only [laws_toStringS.l0, h1, if_false, e]
  exact Ev.some
 | succ d ih =>
  intro i x hi hx he
  have hlt : i < l.length := by omega
  have h1 : (i : Int) < (l.length : Int) := by omega
  have h1x : (i : Int) < (x.length : Int) := by omega
  have h2 : (0 : Int) ≤ (i : Int) := by omega
  have h3 := next_i hlt hl
  refine Ev.succ ?_
  simp only [laws_toStringS.l0, h1, h1x, h2, h3, if_true, Int.toNat_natCast, rdOf_cast _ hlt]
  exact ih (i + 1) _ (by omega) (by simpa using hx) (take_set_step (by omega) hlt he)
theorem toStringS (l : List ByteArray) (hl : l.length ≤ 17592186044416) : Ev (fun k => laws_toStringS.f k l) l := by
 unfold laws_toStringS.f
 simp only [show (0 : Int) ≤ (l.length : Int) by omega, show (l.length : Int).toNat ≤ 17592186044416 by omega, if_true]
 exact toStringS_l l (by omega) l.length 0 _ (by omega) (by simp) (by simp)
theorem eqStringS_l (a b : List ByteArray) (hl : a.length ≤ 9223372036854775807) (hab : a.length = b.length) (d : Nat) : ∀ i : Nat, i + d = a.length →
  Ev (fun k => laws_eqStringS.l0 k a b (i : Int)) (decide (a.drop i = b.drop i)) := by
 induction d with
 | zero =>
  intro i hi
  have h1 : ¬ (i : Int) < (a.length : Int) := by omega
  refine Ev.succ ?_
  rw [List.drop_eq_nil_of_le (by omega), List.drop_eq_nil_of_le (by omega)]
  simp only [laws_eqStringS.l0, h1, if_false, decide_true]
  exact Ev.some
 | succ d ih =>
  intro i hi
  have hlt : i < a.length := by omega
  have hlb : i < b.length := by omega
  have h1 : (i : Int) < (a.length : Int) := by omega
  have h1b : (i : Int) < (b.length : Int) := by omega
  have h2 : (0 : Int) ≤ (i : Int) := by omega
  have h3 := next_i hlt hl
  refine Ev.succ ?_
  rw [drop_get hlt, drop_get hlb]
  simp only [laws_eqStringS.l0, h1, h1b, h2, h3, if_true, rdOf_cast _ hlt, rdOf_cast _ hlb, toList_inj]
  by_cases h : a[i] = b[i]
  ·simp only [h, if_true, List.cons.injEq, true_and]
   exact ih (i + 1) (by omega)
  ·simp only [h, if_false, List.cons.injEq, false_and, decide_false]
   exact Ev.some
theorem eqStringS (a b : List ByteArray) (hl : a.length ≤ 9223372036854775807) : Ev (fun k => laws_eqStringS.f k a b) (decide (a = b)) := by
 unfold laws_eqStringS.f
 by_cases h : (a.length : Int) = (b.length : Int)
 ·simp only [h, if_true]
  refine Ev.succ ?_
  simp only [laws_eqStringS.j0]
  exact eqStringS_l a b hl (by omega) a.length 0 (by omega)
 ·simp only [h, if_false]
  have : ¬ a = b := fun e => h (by rw [e])
  simp only [this, decide_false]
  exact Ev.some
theorem strOfNums_size (l : List Int) : (strOfNums l).size = l.length := by
 unfold strOfNums
 simp [ByteArray.size]
theorem markText_l (n : Nat) : ∀ (x : Nat) (t : ByteArray), x ≤ n → x + t.size ≤ 1099511627776 → ∃ r, Ev (fun k => laws_markText.l0 k (x : Int) t) r := by
 induction n with
 | zero =>
  intro x t hx ht
  obtain rfl : x = 0 := by omega
  refine ⟨(⟨#[109]⟩ : ByteArray) ++ t, Ev.succ ?_⟩
  ·simp only [laws_markText.l0, show ¬ ((0 : Nat) : Int) > 0 by omega, if_false, show 1 + t.size ≤ 9223372036854775807 by omega, if_true]
   exact Ev.some
 | succ n ih =>
  intro x t hx ht
  by_cases h0 : x = 0
  ·subst h0
   refine ⟨(⟨#[109]⟩ : ByteArray) ++ t, Ev.succ ?_⟩
   ·simp only [laws_markText.l0, show ¬ ((0 : Nat) : Int) > 0 by omega, if_false, show 1 + t.size ≤ 9223372036854775807 by omega, if_true]
    exact Ev.some
  ·have hd : wrap64 (Int.tdiv (x : Int) 10) = ((x / 10 : Nat) : Int) := by
    rw [Int.tdiv_eq_ediv_of_nonneg (by omega)]
    rw [wrap64_id (by omega) (by omega)]
    omega
   have hsz : (strOfNums [wrap64 (48 + Int.tmod (x : Int) 10) % 256]).size = 1 := strOfNums_size _
   obtain ⟨r, hr⟩ := ih (x / 10) (strOfNums [wrap64 (48 + Int.tmod (x : Int) 10) % 256] ++ t) (by omega) (by rw [ByteArray.size_append, hsz]; omega)
   refine ⟨r, Ev.succ ?_⟩
   simp only [laws_markText.l0, show (x : Int) > 0 by omega, if_true, Option.bind_some, hsz, show 1 + t.size ≤ 9223372036854775807 by omega, hd]
   exact hr
theorem markText_ex (x : Int) (h : x ≤ 4398046511104 / 8) : ∃ r, Ev (fun k => laws_markText.f k x) r := by
 unfold laws_markText.f
 by_cases h0 : x ≤ 0
 ·simp only [h0, if_true]
  exact ⟨_, Ev.some⟩
 ·simp only [h0, if_false]
  obtain ⟨n, rfl⟩ : ∃ n : Nat, x = n := ⟨x.toNat, by omega⟩
  obtain ⟨r, hr⟩ := markText_l n n (⟨#[]⟩ : ByteArray) (Nat.le_refl _) (by show n + 0 ≤ _; omega)
  refine ⟨r, Ev.succ ?_⟩
  simp only [laws_markText.j0]
  exact hr
open Classical in
noncomputable def mkT (x : Int) : ByteArray := if h : ∃ r, Ev (fun k => laws_markText.f k x) r then h.choose else ByteArray.empty
theorem markText (x : Int) (h : x ≤ 549755813888) : Ev (fun k => laws_markText.f k x) (mkT x) := by
 have hx := markText_ex x (by omega)
 unfold mkT
 rw [dif_pos hx]
 exact hx.choose_spec
noncomputable def mks (x : Int) : Nat → List ByteArray
 | 0 => []
 | n + 1 => mkT x :: mks (x + 1) n
theorem mks_length : ∀ (n : Nat) (x : Int), (mks x n).length = n
 | 0, _ => rfl
 | n + 1, x => by rw [mks, List.length_cons, mks_length n]
theorem mks_get : ∀ (n : Nat) (x : Int) (i : Nat) (h : i < (mks x n).length), (mks x n)[i] = mkT (x + i)
 | 0, _, _, h => absurd h (by simp [mks])
 | n + 1, x, 0, _ => by simp [mks]
 | n + 1, x, i + 1, h => by
  have := mks_get n (x + 1) i (by simpa [mks] using h)
  simp only [mks, List.getElem_cons_succ, this]
  congr 1
  omega
theorem markStringS_l (n : Nat) (x : Int) (hx0 : 0 ≤ x) (hx : x + n ≤ 549755813888) (d : Nat) : ∀ (i : Nat) (l : List ByteArray), i + d = n → l.length = n → l.take i = (mks x n).take i →
  Ev (fun k => laws_markStringS.l0 k l (x + i) (i : Int)) (x + n, mks x n) := by
 induction d with
 | zero =>
  intro i l hi hl he
  obtain rfl : i = n := by omega
  have e : l = mks x i := by rwa [List.take_of_length_le (by omega), List.take_of_length_le (by rw [mks_length]; exact Nat.le_refl _)] at he
  subst e
  have h1 : ¬ (i : Int) < ((mks x i).length : Int) := by omega
  refine Ev.succ ?_
  simp only [laws_markStringS.l0, h1, if_false]
  exact Ev.some
 | succ d ih =>
  intro i l hi hl he
  have h1 : (i : Int) < (l.length : Int) := by omega
  have h2 : (0 : Int) ≤ (i : Int) := by omega
  have h3 := next_i (show i < n by omega) (by omega)
  have h4 : wrap64 (x + i + 1) = x + ((i + 1 : Nat) : Int) := by rw [wrap64_id (by omega) (by omega)]; omega
  refine Ev.succ ?_
  simp only [laws_markStringS.l0, h1, if_true]
  refine Ev.bind (markText (x + i) (by omega)) ?_
  simp only [h2, if_true, h3, h4, Int.toNat_natCast]
  refine ih (i + 1) _ (by omega) (by simpa using hl) ?_
  have := take_set_step (l := l) (m := mks x n) (i := i) (by omega) (by rw [mks_length]; omega) he
  rwa [mks_get n x i (by rw [mks_length]; omega)] at this
theorem markStringS (l : List ByteArray) (x : Int) (hx0 : 0 ≤ x) (hx : x + l.length ≤ 549755813888) : Ev (fun k => laws_markStringS.f k l x) (x + l.length, mks x l.length) := by
 unfold laws_markStringS.f
 have := markStringS_l l.length x hx0 hx l.length 0 l (by omega) rfl (by simp)
 simpa using this
theorem heldStringS_l (n : Nat) (x : Int) (hx0 : 0 ≤ x) (hx : x + n ≤ 549755813888) (d : Nat) : ∀ (i : Nat), i + d = n → Ev (fun k => laws_heldStringS.l0 k (mks x n) (x + i) (i : Int)) (x + n) := by
 induction d with
 | zero =>
  intro i hi
  obtain rfl : i = n := by omega
  have h1 : ¬ (i : Int) < ((mks x i).length : Int) := by rw [mks_length]; omega
  refine Ev.succ ?_
  simp only [laws_heldStringS.l0, h1, if_false]
  exact Ev.some
 | succ d ih =>
  intro i hi
  have hlt : i < (mks x n).length := by rw [mks_length]; omega
  have h1 : (i : Int) < ((mks x n).length : Int) := by omega
  have h2 : (0 : Int) ≤ (i : Int) := by omega
  have h3 := next_i (show i < n by omega) (by omega)
  have h4 : wrap64 (x + i + 1) = x + ((i + 1 : Nat) : Int) := by rw [wrap64_id (by omega) (by omega)]; omega
  refine Ev.succ ?_
  simp only [laws_heldStringS.l0, h1, h2, if_true, rdOf_cast _ hlt, mks_get n x i hlt]
  refine Ev.bind (markText (x + i) (by omega)) ?_
  simp only [if_true, h3, h4]
  exact ih (i + 1) (by omega)
theorem heldStringS (x : Int) (n : Nat) (hx0 : 0 ≤ x) (hx : x + n ≤ 549755813888) : Ev (fun k => laws_heldStringS.f k (mks x n) x) (x + n) := by
 unfold laws_heldStringS.f
 have := heldStringS_l n x hx0 hx n 0 (by omega)
 simpa using this
noncomputable def mkN (x : Int) : Nat → List S94
 | 0 => []
 | n + 1 => ⟨mkT x, mkT (x + 1)⟩ :: mkN (x + 2) n
theorem mkN_length : ∀ (n : Nat) (x : Int), (mkN x n).length = n
 | 0, _ => rfl
 | n + 1, x => by rw [mkN, List.length_cons, mkN_length n]
theorem mkN_get : ∀ (n : Nat) (x : Int) (i : Nat) (h : i < (mkN x n).length), (mkN x n)[i] = ⟨mkT (x + 2 * i), mkT (x + 2 * i + 1)⟩
 | 0, _, _, h => absurd h (by simp [mkN])
 | n + 1, x, 0, _ => by simp [mkN]
 | n + 1, x, i + 1, h => by
  have := mkN_get n (x + 2) i (by simpa [mkN] using h)
  simp only [mkN, List.getElem_cons_succ, this]
  rw [show x + 2 + 2 * (i : Int) = x + 2 * ((i + 1 : Nat) : Int) by omega]
theorem markNeedS_l (n : Nat) (x : Int) (hx0 : 0 ≤ x) (hx : x + 2 * n ≤ 549755813888) (d : Nat) : ∀ (i : Nat) (l : List S94), i + d = n → l.length = n → l.take i = (mkN x n).take i →
  Ev (fun k => laws_markNeedS.l0 k l (x + 2 * i) (i : Int)) (x + 2 * n, mkN x n) := by
 induction d with
 | zero =>
  intro i l hi hl he
  obtain rfl : i = n := by omega
  have e : l = mkN x i := by rwa [List.take_of_length_le (by omega), List.take_of_length_le (by rw [mkN_length]; exact Nat.le_refl _)] at he
  subst e
  have h1 : ¬ (i : Int) < ((mkN x i).length : Int) := by omega
  refine Ev.succ ?_
  simp only [laws_markNeedS.l0, h1, if_false]
  exact Ev.some
 | succ d ih =>
  intro i l hi hl he
  have h1 : (i : Int) < (l.length : Int) := by omega
  have h2 : (0 : Int) ≤ (i : Int) := by omega
  have h3 := next_i (show i < n by omega) (by omega)
  have h4 : wrap64 (x + 2 * i + 1) = x + 2 * i + 1 := wrap64_id (by omega) (by omega)
  have h5 : wrap64 (x + 2 * i + 1 + 1) = x + 2 * ((i + 1 : Nat) : Int) := by rw [wrap64_id (by omega) (by omega)]; omega
  have hg : ∀ u v : S94, rd_T94 ((l.set i u)) (i : Int) = u := fun u _ => by
   have : rd_T94 (l.set i u) (i : Int) = (l.set i u)[i]'(by rw [List.length_set]; omega) := rdD_cast _ (by rw [List.length_set]; omega)
   rw [this, List.getElem_set_self]
  refine Ev.succ ?_
  simp only [laws_markNeedS.l0, h1, if_true]
  refine Ev.bind (markText (x + 2 * i) (by omega)) ?_
  simp only [h2, if_true, Option.bind_some, Int.toNat_natCast, h4]
  refine Ev.bind (markText (x + 2 * i + 1) (by omega)) ?_
  simp only [h3, h5, List.set_set, hg _ z94]
  refine ih (i + 1) _ (by omega) (by simpa using hl) ?_
  have := take_set_step (l := l) (m := mkN x n) (i := i) (by omega) (by rw [mkN_length]; omega) he
  rwa [mkN_get n x i (by rw [mkN_length]; omega)] at this
theorem markNeedS (l : List S94) (x : Int) (hx0 : 0 ≤ x) (hx : x + 2 * l.length ≤ 549755813888) : Ev (fun k => laws_markNeedS.f k l x) (x + 2 * l.length, mkN x l.length) := by
 unfold laws_markNeedS.f
 have := markNeedS_l l.length x hx0 hx l.length 0 l (by omega) rfl (by simp)
 simpa using this
theorem heldNeedS_l (n : Nat) (x : Int) (hx0 : 0 ≤ x) (hx : x + 2 * n ≤ 549755813888) (d : Nat) : ∀ (i : Nat), i + d = n → Ev (fun k => laws_heldNeedS.l0 k (mkN x n) (x + 2 * i) (i : Int)) (x + 2 * n) := by
 induction d with
 | zero =>
  intro i hi
  obtain rfl : i = n := by omega
  have h1 : ¬ (i : Int) < ((mkN x i).length : Int) := by rw [mkN_length]; omega
  refine Ev.succ ?_
  simp only [laws_heldNeedS.l0, h1, if_false]
  exact Ev.some
 | succ d ih =>
  intro i hi
  have hlt : i < (mkN x n).length := by rw [mkN_length]; omega
  have h1 : (i : Int) < ((mkN x n).length : Int) := by omega
  have h2 : (0 : Int) ≤ (i : Int) := by omega
  have h3 := next_i (show i < n by omega) (by omega)
  have h4 : wrap64 (x + 2 * i + 1) = x + 2 * i + 1 := wrap64_id (by omega) (by omega)
  have h5 : wrap64 (x + 2 * i + 1 + 1) = x + 2 * ((i + 1 : Nat) : Int) := by rw [wrap64_id (by omega) (by omega)]; omega
  have hg : rd_T94 (mkN x n) (i : Int) = ⟨mkT (x + 2 * i), mkT (x + 2 * i + 1)⟩ := by
   rw [show rd_T94 (mkN x n) (i : Int) = (mkN x n)[i] from rdD_cast _ hlt, mkN_get n x i hlt]
  refine Ev.succ ?_
  simp only [laws_heldNeedS.l0, h1, if_true]
  refine Ev.succ ?_
  simp only [laws_heldNeedS.j1, h1, h2, if_true, hg, h4]
  refine Ev.bind (markText (x + 2 * i) (by omega)) ?_
  simp only [if_true]
  refine Ev.bind (markText (x + 2 * i + 1) (by omega)) ?_
  simp only [if_true, h3, h5]
  exact ih (i + 1) (by omega)
theorem heldNeedS (x : Int) (n : Nat) (hx0 : 0 ≤ x) (hx : x + 2 * n ≤ 549755813888) : Ev (fun k => laws_heldNeedS.f k (mkN x n) x) (x + 2 * n) := by
 unfold laws_heldNeedS.f
 have := heldNeedS_l n x hx0 hx n 0 (by omega)
 simpa using this
def needVer (x : S38) : Int := szL x.f3
theorem needVer_nonneg (x : S38) : 0 ≤ needVer x := by
 have n3 := szL_nonneg x.f3
 unfold needVer; omega
theorem szVer (x : S38) (a : Int) (ho : ok38 x) (h0 : 0 ≤ a) (ha : a ≤ 9223372036854775807) : Ev (fun k => laws_szVer.f k x.f0 x.f1 x.f2 x.f3 a) (left (needVer x) a) := by
 obtain ⟨o0, o1, o2, o3⟩ := ho
 unfold laws_szVer.f needVer
 have n3 := szL_nonneg x.f3
 skip
 refine Ev.bind (szStringS x.f3 a (by have := o3.1; unfold maxLen at this; omega) (fun z hz => by have := o3.2 z hz; unfold maxLen at this; omega) (by omega) (by omega)) ?_
 by_cases h3 : szL x.f3 ≤ a
 case neg => rw [left_not h3]; first | exact Ev.some | exact Ev.cast Ev.some (left_not (by omega)).symm
 rw [left_pos h3]
 simp only [show ¬ a - szL x.f3 < 0 by omega, if_false]
 skip
 refine Ev.cast Ev.some ?_
 first | rfl | (rw [left_pos (by omega)]; omega)
def convVer (x : S38) : S41 := ⟨x.f0, x.f1, x.f2, x.f3⟩
theorem toVer (x : S38) (hn : needVer x ≤ 1048576) : Ev (fun k => laws_toVer.f k x.f0 x.f1 x.f2 x.f3) ((convVer x).f0, (convVer x).f1, (convVer x).f2, (convVer x).f3) := by
 unfold needVer at hn
 have n3 := szL_nonneg x.f3
 unfold laws_toVer.f
 skip
 refine Ev.bind (toStringS x.f3 (by have := szT_nonneg x.f3; unfold szL at *; omega)) ?_
 skip
 exact Ev.some
def fitVer (y : S41) : Prop := y.f3.length ≤ 9223372036854775807
theorem fit_convVer (x : S38) (hn : needVer x ≤ 1048576) : fitVer (convVer x) := by
 unfold needVer at hn
 have n3 := szL_nonneg x.f3
 exact (show x.f3.length ≤ 9223372036854775807 from by have := szT_nonneg x.f3; unfold szL at *; omega)
theorem eqVer (y : S41) (hf : fitVer y) : Ev (fun k => laws_eqVer.f k y.f0 y.f1 y.f2 y.f3 y.f0 y.f1 y.f2 y.f3) true := by
 unfold laws_eqVer.f
 have m3 := hf
 first | (refine Ev.succ (g := fun k => laws_eqVer.j0 k _ _ _ _ _ _ _ _) ?_; simp only [laws_eqVer.j0]) | (refine Ev.succ (g := fun k => laws_eqVer.j1 k _ _ _ _ _ _ _ _) ?_; simp only [laws_eqVer.j1]) | skip
 first | simp only [if_true] | skip
 first | (refine Ev.succ (g := fun k => laws_eqVer.j0 k _ _ _ _ _ _ _ _) ?_; simp only [laws_eqVer.j0]) | (refine Ev.succ (g := fun k => laws_eqVer.j1 k _ _ _ _ _ _ _ _) ?_; simp only [laws_eqVer.j1]) | skip
 first | simp only [if_true] | skip
 first | (refine Ev.succ (g := fun k => laws_eqVer.j0 k _ _ _ _ _ _ _ _) ?_; simp only [laws_eqVer.j0]) | (refine Ev.succ (g := fun k => laws_eqVer.j1 k _ _ _ _ _ _ _ _) ?_; simp only [laws_eqVer.j1]) | skip
 first | simp only [if_true] | skip
 first | (refine Ev.succ (g := fun k => laws_eqVer.j0 k _ _ _ _ _ _ _ _) ?_; simp only [laws_eqVer.j0]) | (refine Ev.succ (g := fun k => laws_eqVer.j1 k _ _ _ _ _ _ _ _) ?_; simp only [laws_eqVer.j1]) | skip
 refine Ev.bind (eqStringS y.f3 y.f3 m3) ?_
 simp only [decide_true, if_true]
 first | (refine Ev.succ (g := fun k => laws_eqVer.j0 k _ _ _ _ _ _ _ _) ?_; simp only [laws_eqVer.j0]) | (refine Ev.succ (g := fun k => laws_eqVer.j1 k _ _ _ _ _ _ _ _) ?_; simp only [laws_eqVer.j1]) | skip
 first | simp only [if_true] | skip
 exact Ev.some
def needNeed (x : S113) : Int := (x.f0.size : Int) + (x.f1.size : Int)
theorem needNeed_nonneg (x : S113) : 0 ≤ needNeed x := by
 unfold needNeed; omega
def needNeedS : List S113 → Int
 | [] => 0
 | x :: r => needNeed x + needNeedS r
theorem needNeedS_nonneg : ∀ l : List S113, 0 ≤ needNeedS l
 | [] => by simp [needNeedS]
 | x :: r => by have := needNeed_nonneg x; have := needNeedS_nonneg r; simp only [needNeedS]; omega
theorem needNeed_mem : ∀ {l : List S113} {x : S113}, x ∈ l → needNeed x ≤ needNeedS l
 | y :: r, x, h => by
  have h1 := needNeed_nonneg y
  have h2 := needNeedS_nonneg r
  simp only [needNeedS]
  rcases List.mem_cons.1 h with e | h
  ·rw [e]; omega
  ·have := needNeed_mem h; omega
theorem szNeed (x : S113) (a : Int) (ho : ok113 x) (h0 : 0 ≤ a) (ha : a ≤ 9223372036854775807) : Ev (fun k => laws_szNeed.f x.f0 x.f1 a) (left (needNeed x) a) := by
 obtain ⟨o0, o1⟩ := ho
 unfold laws_szNeed.f needNeed
 have o0' := o0; unfold maxLen at o0'
 have o1' := o1; unfold maxLen at o1'
 skip
 have hw0 : wrap64 (a - (x.f0.size : Int)) = a - (x.f0.size : Int) := wrap64_id (by omega) (by omega)
 simp only [hw0]
 by_cases h0 : a - (x.f0.size : Int) < 0
 ·simp only [h0, if_true]
  exact Ev.cast Ev.some (left_not (by omega)).symm
 simp only [h0, if_false]
 skip
 have hw1 : wrap64 ((a - (x.f0.size : Int)) - (x.f1.size : Int)) = (a - (x.f0.size : Int)) - (x.f1.size : Int) := wrap64_id (by omega) (by omega)
 simp only [hw1]
 by_cases h1 : (a - (x.f0.size : Int)) - (x.f1.size : Int) < 0
 ·simp only [h1, if_true]
  exact Ev.cast Ev.some (left_not (by omega)).symm
 simp only [h1, if_false]
 skip
 refine Ev.cast Ev.some ?_
 first | rfl | (rw [left_pos (by omega)]; omega)
theorem szNeedS_l (l : List S113) (hl : l.length ≤ 9223372036854775807) (ho : ∀ x ∈ l, ok113 x) (d : Nat) : ∀ (i : Nat) (a : Int), i + d = l.length → 0 ≤ a → a ≤ 9223372036854775807 →
  Ev (fun k => laws_szNeedS.l0 k l a (i : Int)) (left (needNeedS (l.drop i)) a) := by
 induction d with
 | zero =>
  intro i a hi h0 ha
  have h1 : ¬ (i : Int) < (l.length : Int) := by omega
  refine Ev.succ ?_
  rw [List.drop_eq_nil_of_le (by omega), left_pos (by simpa [needNeedS] using h0)]
  simp only [laws_szNeedS.l0, h1, if_false, needNeedS, Int.sub_zero]
  exact Ev.some
 | succ d ih =>
  intro i a hi h0 ha
  have hlt : i < l.length := by omega
  have h1 : (i : Int) < (l.length : Int) := by omega
  have h2 : (0 : Int) ≤ (i : Int) := by omega
  have h3 := next_i hlt hl
  have hn := needNeedS_nonneg (l.drop (i + 1))
  have hn0 := needNeed_nonneg l[i]
  have hg : rd_T113 l (i : Int) = l[i] := rdD_cast _ hlt
  refine Ev.succ ?_
  rw [drop_get hlt]
  simp only [laws_szNeedS.l0, h1, h2, h3, if_true, hg, needNeedS]
  refine Ev.bind (szNeed l[i] a (ho _ (List.getElem_mem hlt)) h0 ha) ?_
  by_cases h5 : needNeed l[i] ≤ a
  ·rw [left_pos h5]
   simp only [show ¬ a - needNeed l[i] < 0 by omega, if_false]
   refine Ev.cast (ih (i + 1) (a - needNeed l[i]) (by omega) (by omega) (by omega)) ?_
   unfold left
   split <;> split <;> omega
  ·rw [left_not h5]
   exact Ev.cast Ev.some (left_not (by omega)).symm
theorem szNeedS (l : List S113) (a : Int) (ho : l.length ≤ maxLen ∧ ∀ x ∈ l, ok113 x) (h0 : 0 ≤ a) (ha : a ≤ 9223372036854775807) : Ev (fun k => laws_szNeedS.f k l a) (left ((l.length : Int) + needNeedS l) a) := by
 obtain ⟨hl, ho⟩ := ho
 unfold maxLen at hl
 unfold laws_szNeedS.f
 have hn := needNeedS_nonneg l
 rw [wrap64_id (by omega) (by omega)]
 by_cases h : a - (l.length : Int) < 0
 ·simp only [h, if_true]
  rw [left_not (by omega)]
  exact Ev.some
 ·simp only [h, if_false]
  refine Ev.succ ?_
  simp only [laws_szNeedS.j0]
  refine Ev.cast (szNeedS_l l (by omega) ho l.length 0 (a - (l.length : Int)) (by omega) (by omega) (by omega)) ?_
  rw [List.drop_zero]
  unfold left
  split <;> split <;> omega
def convNeed (x : S113) : S94 := ⟨x.f0, x.f1⟩
theorem toNeed (x : S113) (hn : needNeed x ≤ 1048576) : Ev (fun k => laws_toNeed.f x.f0 x.f1) ((convNeed x).f0, (convNeed x).f1) := by
 unfold needNeed at hn
 unfold laws_toNeed.f
 skip
 exact Ev.some
theorem toNeedS_l (l : List S113) (hl : l.length ≤ 9223372036854775807) (hn : ∀ x ∈ l, needNeed x ≤ 1048576) (d : Nat) : ∀ (i : Nat) (x : List S94), i + d = l.length → x.length = l.length → x.take i = (l.map convNeed).take i →
  Ev (fun k => laws_toNeedS.l0 k l x (i : Int)) (l.map convNeed) := by
 induction d with
 | zero =>
  intro i x hi hx he
  have h1 : ¬ (i : Int) < (l.length : Int) := by omega
  have e : x = l.map convNeed := by rwa [List.take_of_length_le (by omega), List.take_of_length_le (by simp; omega)] at he
  refine Ev.succ ?_
  simp only [laws_toNeedS.l0, h1, if_false, e]
  exact Ev.some
 | succ d ih =>
  intro i x hi hx he
  have hlt : i < l.length := by omega
  have h1 : (i : Int) < (l.length : Int) := by omega
  have h1x : (i : Int) < (x.length : Int) := by omega
  have h2 : (0 : Int) ≤ (i : Int) := by omega
  have h3 := next_i hlt hl
  have hg : rd_T113 l (i : Int) = l[i] := rdD_cast _ hlt
  have hm : i < (l.map convNeed).length := by simpa using hlt
  have hv : (l.map convNeed)[i] = convNeed l[i] := by simp
  refine Ev.succ ?_
  simp only [laws_toNeedS.l0, h1, h2, h3, if_true, hg]
  refine Ev.bind (toNeed l[i] (hn _ (List.getElem_mem hlt))) ?_
  simp only [h1x, if_true, Int.toNat_natCast]
  refine ih (i + 1) _ (by omega) (by simpa using hx) ?_
  have := take_set_step (l := x) (m := l.map convNeed) (by omega) hm he
  rw [hv] at this
  exact this
theorem toNeedS (l : List S113) (hn : (l.length : Int) + needNeedS l ≤ 1048576) : Ev (fun k => laws_toNeedS.f k l) (l.map convNeed) := by
 have h0 := needNeedS_nonneg l
 unfold laws_toNeedS.f
 simp only [show (0 : Int) ≤ (l.length : Int) by omega, if_true]
 refine Ev.cond (fun _ => ?_) (fun hq => absurd (by omega) hq)
 exact toNeedS_l l (by omega) (fun x hx => by have := needNeed_mem hx; omega) l.length 0 _ (by omega) (by simp) (by simp)
def fitNeed (y : S94) : Prop := True
theorem fit_convNeed (x : S113) (hn : needNeed x ≤ 1048576) : fitNeed (convNeed x) := by
 unfold needNeed at hn
 trivial
theorem eqNeed (y : S94) (hf : fitNeed y) : Ev (fun k => laws_eqNeed.f y.f0 y.f1 y.f0 y.f1) true := by
 unfold laws_eqNeed.f
 skip
 skip
 first | simp only [if_true] | skip
 skip
 first | simp only [if_true] | skip
 skip
 first | simp only [if_true] | skip
 exact Ev.some
theorem eqNeedS_l (l : List S94) (hl : l.length ≤ 9223372036854775807) (hf : ∀ z ∈ l, fitNeed z) (d : Nat) : ∀ i : Nat, i + d = l.length → Ev (fun k => laws_eqNeedS.l0 k l l (i : Int)) true := by
 induction d with
 | zero =>
  intro i hi
  have h1 : ¬ (i : Int) < (l.length : Int) := by omega
  refine Ev.succ ?_
  simp only [laws_eqNeedS.l0, h1, if_false]
  exact Ev.some
 | succ d ih =>
  intro i hi
  have hlt : i < l.length := by omega
  have h1 : (i : Int) < (l.length : Int) := by omega
  have h2 : (0 : Int) ≤ (i : Int) := by omega
  have h3 := next_i hlt hl
  have hg : rd_T94 l (i : Int) = l[i] := rdD_cast _ hlt
  refine Ev.succ ?_
  simp only [laws_eqNeedS.l0, h1, h2, h3, if_true, hg]
  first | (refine Ev.succ (g := fun k => laws_eqNeedS.j0 k _ _) ?_; simp only [laws_eqNeedS.j0]) | skip
  first | simp only [h1, h2, h3, if_true, hg] | skip
  refine Ev.bind (eqNeed l[i] (hf _ (List.getElem_mem hlt))) ?_
  simp only [if_true]
  exact ih (i + 1) (by omega)
theorem eqNeedS (l : List S94) (hf : l.length ≤ 9223372036854775807 ∧ ∀ z ∈ l, fitNeed z) : Ev (fun k => laws_eqNeedS.f k l l) true := by
 unfold laws_eqNeedS.f
 simp only [if_true]
 refine Ev.succ ?_
 simp only [laws_eqNeedS.j0]
 exact eqNeedS_l l hf.1 hf.2 l.length 0 (by omega)
def needEntry (x : S84) : Int := (x.f0.size : Int) + needVer x.f1 + ((x.f2.length : Int) + needNeedS x.f2)
theorem needEntry_nonneg (x : S84) : 0 ≤ needEntry x := by
 have n1 := needVer_nonneg x.f1
 have n2 := needNeedS_nonneg x.f2
 unfold needEntry; omega
def needEntryS : List S84 → Int
 | [] => 0
 | x :: r => needEntry x + needEntryS r
theorem needEntryS_nonneg : ∀ l : List S84, 0 ≤ needEntryS l
 | [] => by simp [needEntryS]
 | x :: r => by have := needEntry_nonneg x; have := needEntryS_nonneg r; simp only [needEntryS]; omega
theorem needEntry_mem : ∀ {l : List S84} {x : S84}, x ∈ l → needEntry x ≤ needEntryS l
 | y :: r, x, h => by
  have h1 := needEntry_nonneg y
  have h2 := needEntryS_nonneg r
  simp only [needEntryS]
  rcases List.mem_cons.1 h with e | h
  ·rw [e]; omega
  ·have := needEntry_mem h; omega
theorem szEntry (x : S84) (a : Int) (ho : ok84 x) (h0 : 0 ≤ a) (ha : a ≤ 9223372036854775807) : Ev (fun k => laws_szEntry.f k x.f0 x.f1.f0 x.f1.f1 x.f1.f2 x.f1.f3 x.f2 a) (left (needEntry x) a) := by
 obtain ⟨o0, o1, o2⟩ := ho
 unfold laws_szEntry.f needEntry
 have n1 := needVer_nonneg x.f1
 have n2 := needNeedS_nonneg x.f2
 have o0' := o0; unfold maxLen at o0'
 first | (refine Ev.succ (g := fun k => laws_szEntry.j0 k _ _ _ _ _ _ _) ?_; simp only [laws_szEntry.j0]) | skip
 have hw0 : wrap64 (a - (x.f0.size : Int)) = a - (x.f0.size : Int) := wrap64_id (by omega) (by omega)
 simp only [hw0]
 by_cases h0 : a - (x.f0.size : Int) < 0
 ·simp only [h0, if_true]
  exact Ev.cast Ev.some (left_not (by omega)).symm
 simp only [h0, if_false]
 first | (refine Ev.succ (g := fun k => laws_szEntry.j0 k _ _ _ _ _ _ _) ?_; simp only [laws_szEntry.j0]) | skip
 refine Ev.bind (szVer x.f1 (a - (x.f0.size : Int)) o1 (by omega) (by omega)) ?_
 by_cases h1 : needVer x.f1 ≤ (a - (x.f0.size : Int))
 case neg => rw [left_not h1]; first | exact Ev.some | exact Ev.cast Ev.some (left_not (by omega)).symm
 rw [left_pos h1]
 simp only [show ¬ (a - (x.f0.size : Int)) - needVer x.f1 < 0 by omega, if_false]
 first | (refine Ev.succ (g := fun k => laws_szEntry.j0 k _ _ _ _ _ _ _) ?_; simp only [laws_szEntry.j0]) | skip
 refine Ev.bind (szNeedS x.f2 ((a - (x.f0.size : Int)) - needVer x.f1) o2 (by omega) (by omega)) ?_
 by_cases h2 : ((x.f2.length : Int) + needNeedS x.f2) ≤ ((a - (x.f0.size : Int)) - needVer x.f1)
 case neg => rw [left_not h2]; first | exact Ev.some | exact Ev.cast Ev.some (left_not (by omega)).symm
 rw [left_pos h2]
 simp only [show ¬ ((a - (x.f0.size : Int)) - needVer x.f1) - ((x.f2.length : Int) + needNeedS x.f2) < 0 by omega, if_false]
 first | (refine Ev.succ (g := fun k => laws_szEntry.j0 k _ _ _ _ _ _ _) ?_; simp only [laws_szEntry.j0]) | skip
 refine Ev.cast Ev.some ?_
 first | rfl | (rw [left_pos (by omega)]; omega)
theorem szEntryS_l (l : List S84) (hl : l.length ≤ 9223372036854775807) (ho : ∀ x ∈ l, ok84 x) (d : Nat) : ∀ (i : Nat) (a : Int), i + d = l.length → 0 ≤ a → a ≤ 9223372036854775807 →
  Ev (fun k => laws_szEntryS.l0 k l a (i : Int)) (left (needEntryS (l.drop i)) a) := by
 induction d with
 | zero =>
  intro i a hi h0 ha
  have h1 : ¬ (i : Int) < (l.length : Int) := by omega
  refine Ev.succ ?_
  rw [List.drop_eq_nil_of_le (by omega), left_pos (by simpa [needEntryS] using h0)]
  simp only [laws_szEntryS.l0, h1, if_false, needEntryS, Int.sub_zero]
  exact Ev.some
 | succ d ih =>
  intro i a hi h0 ha
  have hlt : i < l.length := by omega
  have h1 : (i : Int) < (l.length : Int) := by omega
  have h2 : (0 : Int) ≤ (i : Int) := by omega
  have h3 := next_i hlt hl
  have hn := needEntryS_nonneg (l.drop (i + 1))
  have hn0 := needEntry_nonneg l[i]
  have hg : rd_T84 l (i : Int) = l[i] := rdD_cast _ hlt
  refine Ev.succ ?_
  rw [drop_get hlt]
  simp only [laws_szEntryS.l0, h1, h2, h3, if_true, hg, needEntryS]
  refine Ev.bind (szEntry l[i] a (ho _ (List.getElem_mem hlt)) h0 ha) ?_
  by_cases h5 : needEntry l[i] ≤ a
  ·rw [left_pos h5]
   simp only [show ¬ a - needEntry l[i] < 0 by omega, if_false]
   refine Ev.cast (ih (i + 1) (a - needEntry l[i]) (by omega) (by omega) (by omega)) ?_
   unfold left
   split <;> split <;> omega
  ·rw [left_not h5]
   exact Ev.cast Ev.some (left_not (by omega)).symm
theorem szEntryS (l : List S84) (a : Int) (ho : l.length ≤ maxLen ∧ ∀ x ∈ l, ok84 x) (h0 : 0 ≤ a) (ha : a ≤ 9223372036854775807) : Ev (fun k => laws_szEntryS.f k l a) (left ((l.length : Int) + needEntryS l) a) := by
 obtain ⟨hl, ho⟩ := ho
 unfold maxLen at hl
 unfold laws_szEntryS.f
 have hn := needEntryS_nonneg l
 rw [wrap64_id (by omega) (by omega)]
 by_cases h : a - (l.length : Int) < 0
 ·simp only [h, if_true]
  rw [left_not (by omega)]
  exact Ev.some
 ·simp only [h, if_false]
  refine Ev.succ ?_
  simp only [laws_szEntryS.j0]
  refine Ev.cast (szEntryS_l l (by omega) ho l.length 0 (a - (l.length : Int)) (by omega) (by omega) (by omega)) ?_
  rw [List.drop_zero]
  unfold left
  split <;> split <;> omega
def convEntry (x : S84) : S44 := ⟨x.f0, convVer x.f1, x.f2.map convNeed⟩
theorem toEntry (x : S84) (hn : needEntry x ≤ 1048576) : Ev (fun k => laws_toEntry.f k x.f0 x.f1.f0 x.f1.f1 x.f1.f2 x.f1.f3 x.f2) ((convEntry x).f0, (convEntry x).f1.f0, (convEntry x).f1.f1, (convEntry x).f1.f2, (convEntry x).f1.f3, (convEntry x).f2) := by
 unfold needEntry at hn
 have n1 := needVer_nonneg x.f1
 have n2 := needNeedS_nonneg x.f2
 unfold laws_toEntry.f
 skip
 refine Ev.bind (toVer x.f1 (by omega)) ?_
 skip
 refine Ev.bind (toNeedS x.f2 (by omega)) ?_
 skip
 exact Ev.some
theorem toEntryS_l (l : List S84) (hl : l.length ≤ 9223372036854775807) (hn : ∀ x ∈ l, needEntry x ≤ 1048576) (d : Nat) : ∀ (i : Nat) (x : List S44), i + d = l.length → x.length = l.length → x.take i = (l.map convEntry).take i →
  Ev (fun k => laws_toEntryS.l0 k l x (i : Int)) (l.map convEntry) := by
 induction d with
 | zero =>
  intro i x hi hx he
  have h1 : ¬ (i : Int) < (l.length : Int) := by omega
  have e : x = l.map convEntry := by rwa [List.take_of_length_le (by omega), List.take_of_length_le (by simp; omega)] at he
  refine Ev.succ ?_
  simp only [laws_toEntryS.l0, h1, if_false, e]
  exact Ev.some
 | succ d ih =>
  intro i x hi hx he
  have hlt : i < l.length := by omega
  have h1 : (i : Int) < (l.length : Int) := by omega
  have h1x : (i : Int) < (x.length : Int) := by omega
  have h2 : (0 : Int) ≤ (i : Int) := by omega
  have h3 := next_i hlt hl
  have hg : rd_T84 l (i : Int) = l[i] := rdD_cast _ hlt
  have hm : i < (l.map convEntry).length := by simpa using hlt
  have hv : (l.map convEntry)[i] = convEntry l[i] := by simp
  refine Ev.succ ?_
  simp only [laws_toEntryS.l0, h1, h2, h3, if_true, hg]
  refine Ev.bind (toEntry l[i] (hn _ (List.getElem_mem hlt))) ?_
  simp only [h1x, if_true, Int.toNat_natCast]
  refine ih (i + 1) _ (by omega) (by simpa using hx) ?_
  have := take_set_step (l := x) (m := l.map convEntry) (by omega) hm he
  rw [hv] at this
  exact this
theorem toEntryS (l : List S84) (hn : (l.length : Int) + needEntryS l ≤ 1048576) : Ev (fun k => laws_toEntryS.f k l) (l.map convEntry) := by
 have h0 := needEntryS_nonneg l
 unfold laws_toEntryS.f
 simp only [show (0 : Int) ≤ (l.length : Int) by omega, if_true]
 refine Ev.cond (fun _ => ?_) (fun hq => absurd (by omega) hq)
 exact toEntryS_l l (by omega) (fun x hx => by have := needEntry_mem hx; omega) l.length 0 _ (by omega) (by simp) (by simp)
def fitEntry (y : S44) : Prop := fitVer y.f1 ∧ (y.f2.length ≤ 9223372036854775807 ∧ ∀ z ∈ y.f2, fitNeed z)
theorem fit_convEntry (x : S84) (hn : needEntry x ≤ 1048576) : fitEntry (convEntry x) := by
 unfold needEntry at hn
 have n1 := needVer_nonneg x.f1
 have n2 := needNeedS_nonneg x.f2
 exact ⟨(fit_convVer _ (by omega)), ⟨by simp only [convEntry, List.length_map]; omega, fun z hz => by obtain ⟨u, hu, rfl⟩ := List.mem_map.1 hz; exact fit_convNeed u (by have := needNeed_mem hu; omega)⟩⟩
theorem eqEntry (y : S44) (hf : fitEntry y) : Ev (fun k => laws_eqEntry.f k y.f0 y.f1.f0 y.f1.f1 y.f1.f2 y.f1.f3 y.f2 y.f0 y.f1.f0 y.f1.f1 y.f1.f2 y.f1.f3 y.f2) true := by
 unfold laws_eqEntry.f
 obtain ⟨m1, m2⟩ := hf
 first | (refine Ev.succ (g := fun k => laws_eqEntry.j0 k _ _ _ _ _ _ _ _ _ _ _ _) ?_; simp only [laws_eqEntry.j0]) | skip
 first | simp only [if_true] | skip
 first | (refine Ev.succ (g := fun k => laws_eqEntry.j0 k _ _ _ _ _ _ _ _ _ _ _ _) ?_; simp only [laws_eqEntry.j0]) | skip
 refine Ev.bind (eqVer y.f1 m1) ?_
 simp only [if_true]
 first | (refine Ev.succ (g := fun k => laws_eqEntry.j0 k _ _ _ _ _ _ _ _ _ _ _ _) ?_; simp only [laws_eqEntry.j0]) | skip
 refine Ev.bind (eqNeedS y.f2 m2) ?_
 simp only [if_true]
 first | (refine Ev.succ (g := fun k => laws_eqEntry.j0 k _ _ _ _ _ _ _ _ _ _ _ _) ?_; simp only [laws_eqEntry.j0]) | skip
 first | simp only [if_true] | skip
 exact Ev.some
theorem eqEntryS_l (l : List S44) (hl : l.length ≤ 9223372036854775807) (hf : ∀ z ∈ l, fitEntry z) (d : Nat) : ∀ i : Nat, i + d = l.length → Ev (fun k => laws_eqEntryS.l0 k l l (i : Int)) true := by
 induction d with
 | zero =>
  intro i hi
  have h1 : ¬ (i : Int) < (l.length : Int) := by omega
  refine Ev.succ ?_
  simp only [laws_eqEntryS.l0, h1, if_false]
  exact Ev.some
 | succ d ih =>
  intro i hi
  have hlt : i < l.length := by omega
  have h1 : (i : Int) < (l.length : Int) := by omega
  have h2 : (0 : Int) ≤ (i : Int) := by omega
  have h3 := next_i hlt hl
  have hg : rd_T44 l (i : Int) = l[i] := rdD_cast _ hlt
  refine Ev.succ ?_
  simp only [laws_eqEntryS.l0, h1, h2, h3, if_true, hg]
  first | (refine Ev.succ (g := fun k => laws_eqEntryS.j0 k _ _) ?_; simp only [laws_eqEntryS.j0]) | skip
  first | simp only [h1, h2, h3, if_true, hg] | skip
  refine Ev.bind (eqEntry l[i] (hf _ (List.getElem_mem hlt))) ?_
  simp only [if_true]
  exact ih (i + 1) (by omega)
theorem eqEntryS (l : List S44) (hf : l.length ≤ 9223372036854775807 ∧ ∀ z ∈ l, fitEntry z) : Ev (fun k => laws_eqEntryS.f k l l) true := by
 unfold laws_eqEntryS.f
 simp only [if_true]
 refine Ev.succ ?_
 simp only [laws_eqEntryS.j0]
 exact eqEntryS_l l hf.1 hf.2 l.length 0 (by omega)
theorem fit_convEntryS (l : List S84) (hn : (l.length : Int) + needEntryS l ≤ 1048576) : (l.map convEntry).length ≤ 9223372036854775807 ∧ ∀ z ∈ l.map convEntry, fitEntry z := by
 have h0 := needEntryS_nonneg l
 refine ⟨by simp only [List.length_map]; omega, fun z hz => ?_⟩
 obtain ⟨u, hu, rfl⟩ := List.mem_map.1 hz
 exact fit_convEntry u (by have := needEntry_mem hu; omega)
theorem Ev.noE {α : Type} {c : Prop} [Decidable c] {g f : Nat → Option α} {r : α} (hc : ¬ c) (h : Ev f r) : Ev (fun k => if c then g k else f k) r := by
 simp only [hc, if_false]; exact h
theorem markVer (a b c : Int) (l : List ByteArray) (x : Int) (hx0 : 0 ≤ x) (hx : x + l.length ≤ 549755813888) : Ev (fun k => laws_markVer.f k a b c l x) (x + l.length, mks x l.length) := by
 unfold laws_markVer.f
 exact Ev.bind (markStringS l x hx0 hx) Ev.some
theorem heldVer (a b c : Int) (n : Nat) (x : Int) (hx0 : 0 ≤ x) (hx : x + n ≤ 549755813888) : Ev (fun k => laws_heldVer.f k a b c (mks x n) x) (x + n) := by
 unfold laws_heldVer.f
 refine Ev.bind (heldStringS x n hx0 hx) ?_
 exact Ev.noE (by omega) Ev.some
theorem markEntry (s : ByteArray) (a b c : Int) (l : List ByteArray) (m : List S94) (x : Int) (hx0 : 0 ≤ x) (hx : x + l.length + 2 * m.length ≤ 549755813888) : Ev (fun k => laws_markEntry.f k s a b c l m x) (x + l.length + 2 * m.length, mks x l.length, mkN (x + l.length) m.length) := by
 unfold laws_markEntry.f
 exact Ev.bind (markVer a b c l x hx0 (by omega)) (Ev.bind (markNeedS m (x + l.length) (by omega) (by omega)) Ev.some)
theorem heldEntry (s : ByteArray) (a b c : Int) (n m : Nat) (x : Int) (hx0 : 0 ≤ x) (hx : x + n + 2 * m ≤ 549755813888) : Ev (fun k => laws_heldEntry.f k s a b c (mks x n) (mkN (x + n) m) x) (x + n + 2 * m) := by
 unfold laws_heldEntry.f
 refine Ev.bind (heldVer a b c n x hx0 (by omega)) ?_
 refine Ev.noE (by omega) ?_
 refine Ev.bind (heldNeedS (x + n) m (by omega) (by omega)) ?_
 exact Ev.noE (by omega) Ev.some
def rowsE : List S44 → Int
 | [] => 0
 | x :: l => x.f1.f3.length + x.f2.length + rowsE l
theorem rowsE_nonneg : ∀ l, 0 ≤ rowsE l
 | [] => Int.le_refl _
 | x :: l => by have := rowsE_nonneg l; unfold rowsE; omega
theorem markEntryS_l : ∀ (l : List S44) (x : Int), 0 ≤ x → x + 4 * l.length + 2 * rowsE l ≤ 549755813888 → ∃ y, Ev (fun k => laws_markEntryS.l k l x) y ∧ x ≤ y.1 ∧ y.1 ≤ x + 4 * l.length + 2 * rowsE l
 | [], x, h0, h => ⟨(x, []), Ev.some, by simp, by simp [rowsE]⟩
 | e :: l, x, h0, h => by
  have hn := rowsE_nonneg l
  rw [rowsE, List.length_cons] at h
  have h1 : wrap64 (x + 1) = x + 1 := wrap64_id (by omega) (by omega)
  have h2 : wrap64 (x + 1 + 1) = x + 2 := by rw [wrap64_id (by omega) (by omega)]; omega
  have h3 : wrap64 (x + 2 + 1) = x + 3 := by rw [wrap64_id (by omega) (by omega)]; omega
  have h4 : wrap64 (x + 3 + 1) = x + 4 := by rw [wrap64_id (by omega) (by omega)]; omega
  obtain ⟨y, hy, g1, g2⟩ := markEntryS_l l (x + 4 + e.f1.f3.length + 2 * e.f2.length) (by omega) (by omega)
  refine ⟨(y.1, (⟨mkT x, ⟨x + 1, x + 2, x + 3, mks (x + 4) e.f1.f3.length⟩, mkN (x + 4 + e.f1.f3.length) e.f2.length⟩ : S44) :: y.2), ?_, ?_, ?_⟩
  ·simp only [laws_markEntryS.l, laws_markEntryS.el, h1, h2, h3, h4]
   refine Ev.bind (Ev.bind (markText x (by omega)) (Ev.bind (markStringS _ (x + 4) (by omega) (by omega)) (Ev.bind (markNeedS _ (x + 4 + e.f1.f3.length) (by omega) (by omega)) Ev.some))) ?_
   exact Ev.bind hy Ev.some
  ·show x ≤ y.1
   omega
  ·rw [rowsE, List.length_cons]
   show y.1 ≤ _
   omega
theorem rowsE_conv : ∀ l : List S84, rowsE (l.map convEntry) ≤ needEntryS l
 | [] => Int.le_refl _
 | x :: l => by
  have h1 := rowsE_conv l
  have h2 := szT_nonneg x.f1.f3
  have h3 := needNeedS_nonneg x.f2
  simp only [List.map_cons, rowsE, needEntryS, needEntry, needVer, szL, convEntry, convVer, List.length_map]
  omega
theorem markEntryS (l : List S84) (h : (l.length : Int) + needEntryS l ≤ 1048576) : ∃ y, Ev (fun k => laws_markEntryS.f k (l.map convEntry) 1) y ∧ 1 ≤ y.1 ∧ y.1 ≤ 8388608 := by
 have h1 := rowsE_conv l
 have h2 := rowsE_nonneg (l.map convEntry)
 obtain ⟨y, hy, g1, g2⟩ := markEntryS_l (l.map convEntry) 1 (by omega) (by rw [List.length_map]; omega)
 rw [List.length_map] at g2
 exact ⟨y, hy, g1, by omega⟩
theorem sameTexts_l (a b : List ByteArray) (hl : a.length ≤ 9223372036854775807) (hab : a.length = b.length) (d : Nat) : ∀ i : Nat, i + d = a.length →
  Ev (fun k => spec_l2SameTexts.l0 k a b (i : Int)) (decide (a.drop i = b.drop i)) := by
 induction d with
 | zero =>
  intro i hi
  have h1 : ¬ (i : Int) < (a.length : Int) := by omega
  refine Ev.succ ?_
  rw [List.drop_eq_nil_of_le (by omega), List.drop_eq_nil_of_le (by omega)]
  simp only [spec_l2SameTexts.l0, h1, if_false, decide_true]
  exact Ev.some
 | succ d ih =>
  intro i hi
  have hlt : i < a.length := by omega
  have hlb : i < b.length := by omega
  have h1 : (i : Int) < (a.length : Int) := by omega
  have h1b : (i : Int) < (b.length : Int) := by omega
  have h2 : (0 : Int) ≤ (i : Int) := by omega
  have h3 := next_i hlt hl
  refine Ev.succ ?_
  rw [drop_get hlt, drop_get hlb]
  simp only [spec_l2SameTexts.l0, h1, h1b, h2, h3, if_true, rdOf_cast _ hlt, rdOf_cast _ hlb, toList_inj]
  by_cases h : a[i] = b[i]
  ·simp only [h, if_true, List.cons.injEq, true_and]
   exact ih (i + 1) (by omega)
  ·simp only [h, if_false, List.cons.injEq, false_and, decide_false]
   exact Ev.some
theorem sameTexts (a b : List ByteArray) (hl : a.length ≤ 9223372036854775807) : Ev (fun k => spec_l2SameTexts.f k a b) (decide (a = b)) := by
 unfold spec_l2SameTexts.f
 by_cases h : (a.length : Int) = (b.length : Int)
 ·simp only [h, if_true]
  refine Ev.succ ?_
  simp only [spec_l2SameTexts.j0]
  exact sameTexts_l a b hl (by omega) a.length 0 (by omega)
 ·simp only [h, if_false]
  have : ¬ a = b := fun e => h (by rw [e])
  simp only [this, decide_false]
  exact Ev.some
theorem slicesEqual_l (a b : List ByteArray) (hl : a.length ≤ 9223372036854775807) (hab : a.length = b.length) (d : Nat) : ∀ i : Nat, i + d = a.length →
  Ev (fun k => slices_Equal_string_string.l0 k a b (a.length : Int) (i : Int)) (decide (a.drop i = b.drop i)) := by
 induction d with
 | zero =>
  intro i hi
  have h1 : ¬ (i : Int) < (a.length : Int) := by omega
  refine Ev.succ ?_
  rw [List.drop_eq_nil_of_le (by omega), List.drop_eq_nil_of_le (by omega)]
  simp only [slices_Equal_string_string.l0, h1, if_false, decide_true]
  exact Ev.some
 | succ d ih =>
  intro i hi
  have hlt : i < a.length := by omega
  have hlb : i < b.length := by omega
  have h1 : (i : Int) < (a.length : Int) := by omega
  have h1b : (i : Int) < (b.length : Int) := by omega
  have h2 : (0 : Int) ≤ (i : Int) := by omega
  have h3 := next_i hlt hl
  refine Ev.succ ?_
  rw [drop_get hlt, drop_get hlb]
  simp only [slices_Equal_string_string.l0, h1, h1b, h2, h3, if_true, rdOf_cast _ hlt, rdOf_cast _ hlb, toList_inj]
  by_cases h : a[i] = b[i]
  ·simp only [h, if_true, List.cons.injEq, true_and]
   exact ih (i + 1) (by omega)
  ·simp only [h, if_false, List.cons.injEq, false_and, decide_false]
   exact Ev.some
theorem slicesEqual (a b : List ByteArray) (hl : a.length ≤ 9223372036854775807) : Ev (fun k => slices_Equal_string_string.f k a b) (decide (a = b)) := by
 unfold slices_Equal_string_string.f
 by_cases h : (a.length : Int) = (b.length : Int)
 ·simp only [h, if_true]
  refine Ev.succ ?_
  simp only [slices_Equal_string_string.j0, ← h]
  exact slicesEqual_l a b hl (by omega) a.length 0 (by omega)
 ·simp only [h, if_false]
  have : ¬ a = b := fun e => h (by rw [e])
  simp only [this, decide_false]
  exact Ev.some
def sameV (a b c : Int) (l : List ByteArray) (a' b' c' : Int) (l' : List ByteArray) : Bool := decide (a = a') && (decide (b = b') && (decide (c = c') && decide (l = l')))
theorem spec_same (a b c : Int) (l : List ByteArray) (a' b' c' : Int) (l' : List ByteArray) (hl : l.length ≤ 9223372036854775807) :
  Ev (fun k => spec_SameVer.f k a b c l a' b' c' l') (sameV a b c l a' b' c' l') := by
 unfold spec_SameVer.f spec_l3SameCore.f sameV
 have hs := sameTexts l l' hl
 rw [show (c == c') = decide (c = c') from rfl]
 by_cases h1 : a = a' <;> by_cases h2 : b = b' <;> by_cases h3 : c = c' <;> simp only [h1, h2, h3, if_true, if_false, Option.bind_some, decide_true, decide_false, Bool.true_and, Bool.false_and, Bool.false_eq_true]
 all_goals first | exact Ev.some | exact Ev.bind hs Ev.some
theorem impl_same (a b c : Int) (l : List ByteArray) (a' b' c' : Int) (l' : List ByteArray) (hl : l.length ≤ 9223372036854775807) :
  Ev (fun k => impl_SameVer.f k a b c l a' b' c' l') (sameV a b c l a' b' c' l') := by
 unfold impl_SameVer.f sameV
 have hs := slicesEqual l l' hl
 by_cases h1 : a = a' <;> by_cases h2 : b = b' <;> by_cases h3 : c = c' <;> simp only [h1, h2, h3, if_true, if_false, decide_true, decide_false, Bool.true_and, Bool.false_and]
 all_goals first | exact Ev.some | exact Ev.bind hs Ev.some
def pEnt (a : ByteArray) (v : S41) (x : S44) : Bool := decide (x.f0 = a) && sameV x.f1.f0 x.f1.f1 x.f1.f2 x.f1.f3 v.f0 v.f1 v.f2 v.f3
def entM (l : List S44) (a : ByteArray) (v : S41) : S44 × Bool := match l.find? (pEnt a v) with
 | some x => (x, true)
 | none => (⟨⟨#[]⟩, ⟨0, 0, 0, []⟩, []⟩, false)
def t7 (p : S44 × Bool) : ByteArray × Int × Int × Int × List ByteArray × List S94 × Bool := (p.1.f0, p.1.f1.f0, p.1.f1.f1, p.1.f1.f2, p.1.f1.f3, p.1.f2, p.2)
theorem spec_copyE (x : S44) (h3 : x.f1.f3.length ≤ 1048576) (h2 : x.f2.length ≤ 1048576) : spec_l8Copy.f x.f0 x.f1.f0 x.f1.f1 x.f1.f2 x.f1.f3 x.f2 = some (x.f0, x.f1.f0, x.f1.f1, x.f1.f2, x.f1.f3, x.f2) := by
 unfold spec_l8Copy.f spec_l3Copy.f
 simp [show x.f1.f3.length < 8796093022208 by omega, show x.f1.f3.length < 4398046511104 by omega, show x.f2.length < 4398046511104 by omega, show x.f2.length < 8796093022208 by omega]
theorem impl_copyE (x : S44) (h3 : x.f1.f3.length ≤ 1048576) (h2 : x.f2.length ≤ 1048576) : impl_copyEntry.f x.f0 x.f1.f0 x.f1.f1 x.f1.f2 x.f1.f3 x.f2 = some (x.f0, x.f1.f0, x.f1.f1, x.f1.f2, x.f1.f3, x.f2) := by
 unfold impl_copyEntry.f impl_copyVer.f impl_Need.f slices_Clone_string_string.f
 simp [show x.f1.f3.length < 8796093022208 by omega, show x.f1.f3.length < 4398046511104 by omega, show x.f2.length < 4398046511104 by omega, show x.f2.length < 8796093022208 by omega]
theorem spec_ent_l (l : List S44) (a : ByteArray) (v : S41) (hl : l.length ≤ 1048576) (hs : ∀ x ∈ l, x.f1.f3.length ≤ 1048576 ∧ x.f2.length ≤ 1048576) (d : Nat) : ∀ i : Nat, i + d = l.length →
  Ev (fun k => spec_EntryOf.l0 k l a (i : Int) v.f0 v.f1 v.f2 v.f3) (t7 (entM (l.drop i) a v)) := by
 induction d with
 | zero =>
  intro i hi
  have h1 : ¬ (i : Int) < (l.length : Int) := by omega
  rw [List.drop_eq_nil_of_le (by omega)]
  refine Ev.succ ?_
  simp only [spec_EntryOf.l0, h1, if_false]
  exact Ev.some
 | succ d ih =>
  intro i hi
  have hlt : i < l.length := by omega
  have h1 : (i : Int) < (l.length : Int) := by omega
  have h2 : (0 : Int) ≤ (i : Int) := by omega
  have h3 := next_i hlt (by omega)
  have hg : rd_T44 l (i : Int) = l[i] := rdD_cast _ hlt
  obtain ⟨g3, g2⟩ := hs _ (List.getElem_mem hlt)
  have ih' := ih (i + 1) (by omega)
  refine Ev.succ ?_
  simp only [spec_EntryOf.l0, h1, if_true]
  refine Ev.succ ?_
  simp only [spec_EntryOf.j1, h1, h2, if_true, hg, h3]
  rw [drop_get hlt]
  by_cases hn : l[i].f0 = a
  ·simp only [hn, if_true]
   refine Ev.bind (spec_same _ _ _ _ _ _ _ _ (by omega)) ?_
   cases hq : sameV l[i].f1.f0 l[i].f1.f1 l[i].f1.f2 l[i].f1.f3 v.f0 v.f1 v.f2 v.f3 with
   | true =>
    have hp : pEnt a v l[i] = true := by simp [pEnt, hn, hq]
    simp only [if_true]
    have hc := spec_copyE l[i] g3 g2
    rw [hn] at hc
    rw [hc]
    refine Ev.cast Ev.some ?_
    simp only [Option.bind_some, entM, List.find?_cons, hp, t7, hn]
   | false =>
    have hp : pEnt a v l[i] = false := by simp [pEnt, hn, hq]
    simp only [Bool.false_eq_true, if_false]
    refine Ev.cast ih' ?_
    simp only [entM, List.find?_cons, hp]
  ·have hp : pEnt a v l[i] = false := by simp [pEnt, hn]
   have hn' : ¬ l[i].f0.toList = a.toList := fun e => hn (toList_inj.1 e)
   simp only [hn', if_false]
   refine Ev.cast ih' ?_
   simp only [entM, List.find?_cons, hp]
theorem spec_ent (l : List S44) (a : ByteArray) (v : S41) (hl : l.length ≤ 1048576) (hs : ∀ x ∈ l, x.f1.f3.length ≤ 1048576 ∧ x.f2.length ≤ 1048576) :
  Ev (fun k => spec_EntryOf.f k l a v.f0 v.f1 v.f2 v.f3) (t7 (entM l a v)) := spec_ent_l l a v hl hs l.length 0 (by omega)
theorem impl_at (p : Nat → S44 → Option Bool) (q : S44 → Bool) : ∀ (l : List S44) (i : Nat), (∀ x ∈ l, Ev (fun k => p k x) (q x)) →
  Ev (fun k => impl_entryAt.at (p k) l i) (match l.findIdx? q with | some j => ((i + j : Nat) : Int) | none => -1)
 | [], i, _ => Ev.some
 | x :: l, i, h => by
  have ih := impl_at p q l (i + 1) (fun y hy => h y (List.mem_cons_of_mem _ hy))
  unfold impl_entryAt.at
  refine Ev.bind (h x (List.mem_cons_self ..)) ?_
  rw [List.findIdx?_cons]
  cases hq : q x with
  | true => simpa using Ev.some
  | false =>
   simp only [Bool.false_eq_true, if_false]
   refine Ev.cast ih ?_
   cases l.findIdx? q with
   | none => rfl
   | some j => simp only [Option.map_some]; omega
theorem impl_test (a : ByteArray) (v : S41) (x : S44) (h : x.f1.f3.length ≤ 1048576) : Ev (fun k => impl_entryAt.test k a v.f0 v.f1 v.f2 v.f3 x) (pEnt a v x) := by
 unfold impl_entryAt.test
 by_cases hn : x.f0 = a
 ·simp only [hn, if_true]
  refine Ev.cast (impl_same _ _ _ _ _ _ _ _ (by omega)) ?_
  simp [pEnt, hn]
 ·have hn' : ¬ x.f0.toList = a.toList := fun e => hn (toList_inj.1 e)
  simp only [hn', if_false]
  refine Ev.cast Ev.some ?_
  simp [pEnt, hn]
theorem impl_ent (l : List S44) (a : ByteArray) (v : S41) (hl : l.length ≤ 1048576) (hs : ∀ x ∈ l, x.f1.f3.length ≤ 1048576 ∧ x.f2.length ≤ 1048576) :
  Ev (fun k => impl_EntryOf.f k l a v.f0 v.f1 v.f2 v.f3) (t7 (entM l a v)) := by
 unfold impl_EntryOf.f impl_entryAt.f
 refine Ev.bind (impl_at (fun k => impl_entryAt.test k a v.f0 v.f1 v.f2 v.f3) (pEnt a v) l 0 (fun x hx => impl_test a v x (hs x hx).1)) ?_
 cases hq : l.findIdx? (pEnt a v) with
 | none =>
  have hf : l.find? (pEnt a v) = none := List.find?_eq_none.2 (fun x hx => by have := List.findIdx?_eq_none_iff.1 hq x hx; simp [this])
  simp only [show (-1 : Int) < 0 by omega, if_true]
  refine Ev.cast Ev.some ?_
  simp only [entM, hf, t7]
 | some j =>
  obtain ⟨hj, hp, hn⟩ := List.findIdx?_eq_some_iff_getElem.1 hq
  have hf : l.find? (pEnt a v) = some l[j] := List.find?_eq_some_iff_getElem.2 ⟨hp, j, hj, rfl, fun i hi => by simpa using hn i hi⟩
  have hg : rd_T44 l (j : Int) = l[j] := rdD_cast _ hj
  obtain ⟨g3, g2⟩ := hs _ (List.getElem_mem hj)
  simp only [Nat.zero_add, show ¬ (j : Int) < 0 by omega, show (0 : Int) ≤ (j : Int) by omega, show (j : Int) < (l.length : Int) by omega, if_true, if_false, hg, impl_copyE _ g3 g2, Option.bind_some]
  refine Ev.cast Ev.some ?_
  simp only [entM, hf, t7]
theorem entM_mem (l : List S44) (a : ByteArray) (v : S41) (P : S44 → Prop) (h0 : P ⟨⟨#[]⟩, ⟨0, 0, 0, []⟩, []⟩) (h : ∀ x ∈ l, P x) : P (entM l a v).1 := by
 unfold entM
 cases hf : l.find? (pEnt a v) with
 | none => exact h0
 | some x => exact h x (List.mem_of_find?_eq_some hf)
end Go.Proofs.Ytbaeljcnbkeipaa.Pure
