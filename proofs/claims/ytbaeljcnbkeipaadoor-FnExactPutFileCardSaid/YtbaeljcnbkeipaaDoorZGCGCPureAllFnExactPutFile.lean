/- What the functions come to. -/
import Derived.Test.YtbaeljcnbkeipaaDoorZGCAux
import Derived.Test.YtbaeljcnbkeipaaDoorZGCPGCx0
import Derived.Test.YtbaeljcnbkeipaaDoorZGCOGC
import Derived.Test.YtbaeljcnbkeipaaDoorZGCPGCx1
import Derived.Test.YtbaeljcnbkeipaaDoorZGCPGCx4
import Derived.Test.YtbaeljcnbkeipaaDoorZGCPGCx7
import Derived.Lib.SplitLaws
set_option linter.unusedVariables false
set_option linter.unusedSimpArgs false
namespace Go.Proofs.YtbaeljcnbkeipaaDoor.Pure
open Go.RowKit Go.Proofs.YtbaeljcnbkeipaaDoor.PGC Go.Proofs.YtbaeljcnbkeipaaDoorW.PrintWords Go.Proofs.YtbaeljcnbkeipaaDoorW.PrintLast Go.Proofs.YtbaeljcnbkeipaaDoor.Aux
def needFile (x : S24) : Int := (x.f0.size : Int) + (x.f1.size : Int)
theorem needFile_nonneg (x : S24) : 0 ≤ needFile x := by
 unfold needFile; omega
def needFileS : List S24 → Int
 | [] => 0
 | x :: r => needFile x + needFileS r
theorem needFileS_nonneg : ∀ l : List S24, 0 ≤ needFileS l
 | [] => by simp [needFileS]
 | x :: r => by have := needFile_nonneg x; have := needFileS_nonneg r; simp only [needFileS]; omega
theorem needFile_mem : ∀ {l : List S24} {x : S24}, x ∈ l → needFile x ≤ needFileS l
 | y :: r, x, h => by
  have h1 := needFile_nonneg y
  have h2 := needFileS_nonneg r
  simp only [needFileS]
  rcases List.mem_cons.1 h with e | h
  ·rw [e]; omega
  ·have := needFile_mem h; omega
theorem szFile (x : S24) (a : Int) (ho : ok24 x) (h0 : 0 ≤ a) (ha : a ≤ 9223372036854775807) : Ev (fun k => laws_szFile.f x.f0 x.f1 a) (left (needFile x) a) := by
 obtain ⟨o0, o1⟩ := ho
 unfold laws_szFile.f needFile
 have o0' := o0; unfold maxLen at o0'
 have o1' := o1; unfold maxLen at o1'
 skip
 have hw0 : wrap64 (a - (x.f0.size : Int)) = a - (x.f0.size : Int) := wrap64_id (by omega) (by omega)
 simp only [hw0]
 by_cases h0 : a - (x.f0.size : Int) < 0
 ·simp only [h0, if_true]
  exact Ev.cast Ev.some (left_not (by omega)).symm
 simp only [h0, if_false]
 skip
 have hw1 : wrap64 ((a - (x.f0.size : Int)) - (x.f1.size : Int)) = (a - (x.f0.size : Int)) - (x.f1.size : Int) := wrap64_id (by omega) (by omega)
 simp only [hw1]
 by_cases h1 : (a - (x.f0.size : Int)) - (x.f1.size : Int) < 0
 ·simp only [h1, if_true]
  exact Ev.cast Ev.some (left_not (by omega)).symm
 simp only [h1, if_false]
 skip
 refine Ev.cast Ev.some ?_
 first | rfl | (rw [left_pos (by omega)]; omega)
theorem szFileS_l (l : List S24) (hl : l.length ≤ 9223372036854775807) (ho : ∀ x ∈ l, ok24 x) (d : Nat) : ∀ (i : Nat) (a : Int), i + d = l.length → 0 ≤ a → a ≤ 9223372036854775807 →
  Ev (fun k => laws_szFileS.l0 k l a (i : Int)) (left (needFileS (l.drop i)) a) := by
 induction d with
 | zero =>
  intro i a hi h0 ha
  have h1 : ¬ (i : Int) < (l.length : Int) := by omega
  refine Ev.succ ?_
  rw [List.drop_eq_nil_of_le (by omega), left_pos (by simpa [needFileS] using h0)]
  simp only [laws_szFileS.l0, h1, if_false, needFileS, Int.sub_zero]
  exact Ev.some
 | succ d ih =>
  intro i a hi h0 ha
  have hlt : i < l.length := by omega
  have h1 : (i : Int) < (l.length : Int) := by omega
  have h2 : (0 : Int) ≤ (i : Int) := by omega
  have h3 := next_i hlt hl
  have hn := needFileS_nonneg (l.drop (i + 1))
  have hn0 := needFile_nonneg l[i]
  have hg : rd_T24 l (i : Int) = l[i] := rdD_cast _ hlt
  refine Ev.succ ?_
  rw [drop_get hlt]
  simp only [laws_szFileS.l0, h1, h2, h3, if_true, hg, needFileS]
  refine Ev.bind (szFile l[i] a (ho _ (List.getElem_mem hlt)) h0 ha) ?_
  by_cases h5 : needFile l[i] ≤ a
  ·rw [left_pos h5]
   simp only [show ¬ a - needFile l[i] < 0 by omega, if_false]
   refine Ev.cast (ih (i + 1) (a - needFile l[i]) (by omega) (by omega) (by omega)) ?_
   unfold left
   split <;> split <;> omega
  ·rw [left_not h5]
   exact Ev.cast Ev.some (left_not (by omega)).symm
theorem szFileS (l : List S24) (a : Int) (ho : l.length ≤ maxLen ∧ ∀ x ∈ l, ok24 x) (h0 : 0 ≤ a) (ha : a ≤ 9223372036854775807) : Ev (fun k => laws_szFileS.f k l a) (left ((l.length : Int) + needFileS l) a) := by
 obtain ⟨hl, ho⟩ := ho
 unfold maxLen at hl
 unfold laws_szFileS.f
 have hn := needFileS_nonneg l
 rw [wrap64_id (by omega) (by omega)]
 by_cases h : a - (l.length : Int) < 0
 ·simp only [h, if_true]
  rw [left_not (by omega)]
  exact Ev.some
 ·simp only [h, if_false]
  refine Ev.succ ?_
  simp only [laws_szFileS.j0]
  refine Ev.cast (szFileS_l l (by omega) ho l.length 0 (a - (l.length : Int)) (by omega) (by omega) (by omega)) ?_
  rw [List.drop_zero]
  unfold left
  split <;> split <;> omega
def convFile (x : S24) : S31 := ⟨x.f0, x.f1⟩
theorem toFile (x : S24) (hn : needFile x ≤ 1048576) : Ev (fun k => laws_toFile.f x.f0 x.f1) ((convFile x).f0, (convFile x).f1) := by
 unfold needFile at hn
 unfold laws_toFile.f
 skip
 exact Ev.some
theorem toFileS_l (l : List S24) (hl : l.length ≤ 9223372036854775807) (hn : ∀ x ∈ l, needFile x ≤ 1048576) (d : Nat) : ∀ (i : Nat) (x : List S31), i + d = l.length → x.length = l.length → x.take i = (l.map convFile).take i →
  Ev (fun k => laws_toFileS.l0 k l x (i : Int)) (l.map convFile) := by
 induction d with
 | zero =>
  intro i x hi hx he
  have h1 : ¬ (i : Int) < (l.length : Int) := by omega
  have e : x = l.map convFile := by rwa [List.take_of_length_le (by omega), List.take_of_length_le (by simp; omega)] at he
  refine Ev.succ ?_
  simp only [laws_toFileS.l0, h1, if_false, e]
  exact Ev.some
 | succ d ih =>
  intro i x hi hx he
  have hlt : i < l.length := by omega
  have h1 : (i : Int) < (l.length : Int) := by omega
  have h1x : (i : Int) < (x.length : Int) := by omega
  have h2 : (0 : Int) ≤ (i : Int) := by omega
  have h3 := next_i hlt hl
  have hg : rd_T24 l (i : Int) = l[i] := rdD_cast _ hlt
  have hm : i < (l.map convFile).length := by simpa using hlt
  have hv : (l.map convFile)[i] = convFile l[i] := by simp
  refine Ev.succ ?_
  simp only [laws_toFileS.l0, h1, h2, h3, if_true, hg]
  refine Ev.bind (toFile l[i] (hn _ (List.getElem_mem hlt))) ?_
  simp only [h1x, if_true, Int.toNat_natCast]
  refine ih (i + 1) _ (by omega) (by simpa using hx) ?_
  have := take_set_step (l := x) (m := l.map convFile) (by omega) hm he
  rw [hv] at this
  exact this
theorem toFileS (l : List S24) (hn : (l.length : Int) + needFileS l ≤ 1048576) : Ev (fun k => laws_toFileS.f k l) (l.map convFile) := by
 have h0 := needFileS_nonneg l
 unfold laws_toFileS.f
 simp only [show (0 : Int) ≤ (l.length : Int) by omega, if_true]
 refine Ev.cond (fun _ => ?_) (fun hq => absurd (by omega) hq)
 exact toFileS_l l (by omega) (fun x hx => by have := needFile_mem hx; omega) l.length 0 _ (by omega) (by simp) (by simp)
def fitFile (y : S31) : Prop := True
theorem fit_convFile (x : S24) (hn : needFile x ≤ 1048576) : fitFile (convFile x) := by
 unfold needFile at hn
 trivial
theorem eqFile (y : S31) (hf : fitFile y) : Ev (fun k => laws_eqFile.f y.f0 y.f1 y.f0 y.f1) true := by
 unfold laws_eqFile.f
 skip
 skip
 first | simp only [if_true] | skip
 skip
 first | simp only [if_true] | skip
 skip
 first | simp only [if_true] | skip
 exact Ev.some
theorem eqFileS_l (l : List S31) (hl : l.length ≤ 9223372036854775807) (hf : ∀ z ∈ l, fitFile z) (d : Nat) : ∀ i : Nat, i + d = l.length → Ev (fun k => laws_eqFileS.l0 k l l (i : Int)) true := by
 induction d with
 | zero =>
  intro i hi
  have h1 : ¬ (i : Int) < (l.length : Int) := by omega
  refine Ev.succ ?_
  simp only [laws_eqFileS.l0, h1, if_false]
  exact Ev.some
 | succ d ih =>
  intro i hi
  have hlt : i < l.length := by omega
  have h1 : (i : Int) < (l.length : Int) := by omega
  have h2 : (0 : Int) ≤ (i : Int) := by omega
  have h3 := next_i hlt hl
  have hg : rd_T31 l (i : Int) = l[i] := rdD_cast _ hlt
  refine Ev.succ ?_
  simp only [laws_eqFileS.l0, h1, h2, h3, if_true, hg]
  first | (refine Ev.succ (g := fun k => laws_eqFileS.j0 k _ _) ?_; simp only [laws_eqFileS.j0]) | skip
  first | simp only [h1, h2, h3, if_true, hg] | skip
  refine Ev.bind (eqFile l[i] (hf _ (List.getElem_mem hlt))) ?_
  simp only [if_true]
  exact ih (i + 1) (by omega)
theorem eqFileS (l : List S31) (hf : l.length ≤ 9223372036854775807 ∧ ∀ z ∈ l, fitFile z) : Ev (fun k => laws_eqFileS.f k l l) true := by
 unfold laws_eqFileS.f
 simp only [if_true]
 refine Ev.succ ?_
 simp only [laws_eqFileS.j0]
 exact eqFileS_l l hf.1 hf.2 l.length 0 (by omega)
theorem fit_convFileS (l : List S24) (hn : (l.length : Int) + needFileS l ≤ 1048576) : (l.map convFile).length ≤ 9223372036854775807 ∧ ∀ z ∈ l.map convFile, fitFile z := by
 have h0 := needFileS_nonneg l
 refine ⟨by simp only [List.length_map]; omega, fun z hz => ?_⟩
 obtain ⟨u, hu, rfl⟩ := List.mem_map.1 hz
 exact fit_convFile u (by have := needFile_mem hu; omega)
theorem strOfNums_size (l : List Int) : (strOfNums l).size = l.length := by
 unfold strOfNums
 simp [ByteArray.size]
theorem markText_l (n : Nat) : ∀ (x : Nat) (t : ByteArray), x ≤ n → x + t.size ≤ 1099511627776 → ∃ r, Ev (fun k => laws_markText.l0 k (x : Int) t) r := by
 induction n with
 | zero =>
  intro x t hx ht
  obtain rfl : x = 0 := by omega
  refine ⟨(⟨#[109]⟩ : ByteArray) ++ t, Ev.succ ?_⟩
  ·simp only [laws_markText.l0, show ¬ ((0 : Nat) : Int) > 0 by omega, if_false, show 1 + t.size ≤ 9223372036854775807 by omega, if_true]
   exact Ev.some
 | succ n ih =>
  intro x t hx ht
  by_cases h0 : x = 0
  ·subst h0
   refine ⟨(⟨#[109]⟩ : ByteArray) ++ t, Ev.succ ?_⟩
   ·simp only [laws_markText.l0, show ¬ ((0 : Nat) : Int) > 0 by omega, if_false, show 1 + t.size ≤ 9223372036854775807 by omega, if_true]
    exact Ev.some
  ·have hd : wrap64 (Int.tdiv (x : Int) 10) = ((x / 10 : Nat) : Int) := by
    rw [Int.tdiv_eq_ediv_of_nonneg (by omega)]
    rw [wrap64_id (by omega) (by omega)]
    omega
   have hsz : (strOfNums [wrap64 (48 + Int.tmod (x : Int) 10) % 256]).size = 1 := strOfNums_size _
   obtain ⟨r, hr⟩ := ih (x / 10) (strOfNums [wrap64 (48 + Int.tmod (x : Int) 10) % 256] ++ t) (by omega) (by rw [ByteArray.size_append, hsz]; omega)
   refine ⟨r, Ev.succ ?_⟩
   simp only [laws_markText.l0, show (x : Int) > 0 by omega, if_true, Option.bind_some, hsz, show 1 + t.size ≤ 9223372036854775807 by omega, hd]
   exact hr
theorem markText_ex (x : Int) (h : x ≤ 4398046511104 / 8) : ∃ r, Ev (fun k => laws_markText.f k x) r := by
 unfold laws_markText.f
 by_cases h0 : x ≤ 0
 ·simp only [h0, if_true]
  exact ⟨_, Ev.some⟩
 ·simp only [h0, if_false]
  obtain ⟨n, rfl⟩ : ∃ n : Nat, x = n := ⟨x.toNat, by omega⟩
  obtain ⟨r, hr⟩ := markText_l n n (⟨#[]⟩ : ByteArray) (Nat.le_refl _) (by show n + 0 ≤ _; omega)
  refine ⟨r, Ev.succ ?_⟩
  simp only [laws_markText.j0]
  exact hr
open Classical in
noncomputable def mkT (x : Int) : ByteArray := if h : ∃ r, Ev (fun k => laws_markText.f k x) r then h.choose else ByteArray.empty
theorem markText (x : Int) (h : x ≤ 549755813888) : Ev (fun k => laws_markText.f k x) (mkT x) := by
 have hx := markText_ex x (by omega)
 unfold mkT
 rw [dif_pos hx]
 exact hx.choose_spec
noncomputable def mkF (x : Int) : Nat → List S31
 | 0 => []
 | n + 1 => ⟨mkT x, mkT (x + 1)⟩ :: mkF (x + 2) n
theorem mkF_length : ∀ (n : Nat) (x : Int), (mkF x n).length = n
 | 0, _ => rfl
 | n + 1, x => by rw [mkF, List.length_cons, mkF_length n]
theorem mkF_get : ∀ (n : Nat) (x : Int) (i : Nat) (h : i < (mkF x n).length), (mkF x n)[i] = ⟨mkT (x + 2 * i), mkT (x + 2 * i + 1)⟩
 | 0, _, _, h => absurd h (by simp [mkF])
 | n + 1, x, 0, _ => by simp [mkF]
 | n + 1, x, i + 1, h => by
  have := mkF_get n (x + 2) i (by simpa [mkF] using h)
  simp only [mkF, List.getElem_cons_succ, this]
  rw [show x + 2 + 2 * (i : Int) = x + 2 * ((i + 1 : Nat) : Int) by omega]
theorem markFileS_l (n : Nat) (x : Int) (hx0 : 0 ≤ x) (hx : x + 2 * n ≤ 549755813888) (d : Nat) : ∀ (i : Nat) (l : List S31), i + d = n → l.length = n → l.take i = (mkF x n).take i →
  Ev (fun k => laws_markFileS.l0 k l (x + 2 * i) (i : Int)) (x + 2 * n, mkF x n) := by
 induction d with
 | zero =>
  intro i l hi hl he
  obtain rfl : i = n := by omega
  have e : l = mkF x i := by rwa [List.take_of_length_le (by omega), List.take_of_length_le (by rw [mkF_length]; exact Nat.le_refl _)] at he
  subst e
  have h1 : ¬ (i : Int) < ((mkF x i).length : Int) := by omega
  refine Ev.succ ?_
  simp only [laws_markFileS.l0, h1, if_false]
  exact Ev.some
 | succ d ih =>
  intro i l hi hl he
  have h1 : (i : Int) < (l.length : Int) := by omega
  have h2 : (0 : Int) ≤ (i : Int) := by omega
  have h3 := next_i (show i < n by omega) (by omega)
  have h4 : wrap64 (x + 2 * i + 1) = x + 2 * i + 1 := wrap64_id (by omega) (by omega)
  have h5 : wrap64 (x + 2 * i + 1 + 1) = x + 2 * ((i + 1 : Nat) : Int) := by rw [wrap64_id (by omega) (by omega)]; omega
  have hg : ∀ u v : S31, rd_T31 ((l.set i u)) (i : Int) = u := fun u _ => by
   have : rd_T31 (l.set i u) (i : Int) = (l.set i u)[i]'(by rw [List.length_set]; omega) := rdD_cast _ (by rw [List.length_set]; omega)
   rw [this, List.getElem_set_self]
  refine Ev.succ ?_
  simp only [laws_markFileS.l0, h1, if_true]
  refine Ev.bind (markText (x + 2 * i) (by omega)) ?_
  simp only [h2, if_true, Option.bind_some, Int.toNat_natCast, h4]
  refine Ev.bind (markText (x + 2 * i + 1) (by omega)) ?_
  simp only [h3, h5, List.set_set, hg _ z31]
  refine ih (i + 1) _ (by omega) (by simpa using hl) ?_
  have := take_set_step (l := l) (m := mkF x n) (i := i) (by omega) (by rw [mkF_length]; omega) he
  rwa [mkF_get n x i (by rw [mkF_length]; omega)] at this
theorem markFileS (l : List S31) (x : Int) (hx0 : 0 ≤ x) (hx : x + 2 * l.length ≤ 549755813888) : Ev (fun k => laws_markFileS.f k l x) (x + 2 * l.length, mkF x l.length) := by
 unfold laws_markFileS.f
 have := markFileS_l l.length x hx0 hx l.length 0 l (by omega) rfl (by simp)
 simpa using this
theorem heldFileS_l (n : Nat) (x : Int) (hx0 : 0 ≤ x) (hx : x + 2 * n ≤ 549755813888) (d : Nat) : ∀ (i : Nat), i + d = n → Ev (fun k => laws_heldFileS.l0 k (mkF x n) (x + 2 * i) (i : Int)) (x + 2 * n) := by
 induction d with
 | zero =>
  intro i hi
  obtain rfl : i = n := by omega
  have h1 : ¬ (i : Int) < ((mkF x i).length : Int) := by rw [mkF_length]; omega
  refine Ev.succ ?_
  simp only [laws_heldFileS.l0, h1, if_false]
  exact Ev.some
 | succ d ih =>
  intro i hi
  have hlt : i < (mkF x n).length := by rw [mkF_length]; omega
  have h1 : (i : Int) < ((mkF x n).length : Int) := by omega
  have h2 : (0 : Int) ≤ (i : Int) := by omega
  have h3 := next_i (show i < n by omega) (by omega)
  have h4 : wrap64 (x + 2 * i + 1) = x + 2 * i + 1 := wrap64_id (by omega) (by omega)
  have h5 : wrap64 (x + 2 * i + 1 + 1) = x + 2 * ((i + 1 : Nat) : Int) := by rw [wrap64_id (by omega) (by omega)]; omega
  have hg : rd_T31 (mkF x n) (i : Int) = ⟨mkT (x + 2 * i), mkT (x + 2 * i + 1)⟩ := by
   rw [show rd_T31 (mkF x n) (i : Int) = (mkF x n)[i] from rdD_cast _ hlt, mkF_get n x i hlt]
  refine Ev.succ ?_
  simp only [laws_heldFileS.l0, h1, if_true]
  refine Ev.succ ?_
  simp only [laws_heldFileS.j1, h1, h2, if_true, hg, h4]
  refine Ev.bind (markText (x + 2 * i) (by omega)) ?_
  simp only [if_true]
  refine Ev.bind (markText (x + 2 * i + 1) (by omega)) ?_
  simp only [if_true, h3, h5]
  exact ih (i + 1) (by omega)
theorem heldFileS (x : Int) (n : Nat) (hx0 : 0 ≤ x) (hx : x + 2 * n ≤ 549755813888) : Ev (fun k => laws_heldFileS.f k (mkF x n) x) (x + 2 * n) := by
 unfold laws_heldFileS.f
 have := heldFileS_l n x hx0 hx n 0 (by omega)
 simpa using this
def inB (x a b : Int) : Bool := decide (a ≤ x) && decide (x ≤ b)
def smallB (x : Int) : Bool := inB x 97 122
def digitB (x : Int) : Bool := inB x 48 57
theorem in_f (a b c : Int) : spec_l1In.f a b c = some (inB a b c) := by
 unfold spec_l1In.f inB
 by_cases h : b ≤ a <;> simp [h]
theorem inRange_f (a b c : Int) : impl_inRange.f a b c = some (inB a b c) := by
 unfold impl_inRange.f inB
 by_cases h : b ≤ a <;> simp [h]
theorem small_spec {x : Int} (h : 0 ≤ x ∧ x ≤ 255) : spec_l1Small.f x = some (smallB x) := by
 unfold spec_l1Small.f
 rw [wrap64_id (by omega) (by omega), in_f]
 rfl
theorem digit_spec {x : Int} (h : 0 ≤ x ∧ x ≤ 255) : spec_l1Digit.f x = some (digitB x) := by
 unfold spec_l1Digit.f
 rw [wrap64_id (by omega) (by omega), in_f]
 rfl
theorem small_impl (x : Int) : impl_isSmall.f x = some (smallB x) := by
 unfold impl_isSmall.f smallB inB
 by_cases h : 97 ≤ x <;> simp [h]
theorem digit_impl (x : Int) : impl_isFigure.f x = some (digitB x) := by
 unfold impl_isFigure.f digitB inB
 by_cases h : 48 ≤ x <;> simp [h]
end Go.Proofs.YtbaeljcnbkeipaaDoor.Pure
namespace Go.Proofs.YtbaeljcnbkeipaaDoor.Pure
open Go.RowKit Go.Proofs.YtbaeljcnbkeipaaDoor.Aux Go.Proofs.YtbaeljcnbkeipaaDoorW.PrintWords
theorem Ev.no {α : Type} {c : Prop} [Decidable c] {g f : Nat → Option α} {r : α} (hc : ¬ c) (h : Ev f r) : Ev (fun k => if c then g k else f k) r := by
 simpa only [hc, if_false] using h
def glue (u : List UInt8) : List (List UInt8) → List (List UInt8)
 | [] => [u]
 | p :: ps => (u ++ p) :: ps
theorem glue_nil : ∀ {l : List (List UInt8)}, l ≠ [] → glue [] l = l
 | [], h => absurd rfl h
 | _ :: _, _ => rfl
theorem glue_glue (u v : List UInt8) : ∀ l : List (List UInt8), l ≠ [] → glue u (glue v l) = glue (u ++ v) l
 | [], h => absurd rfl h
 | p :: ps, _ => by simp [glue]
theorem split_miss {s sep : List UInt8} (h : Lib.index s sep = -1) : Lib.split s sep = [s] := by
 unfold Lib.split
 rw [Lib.count_miss h]
 rfl
theorem split_hit {s sep : List UInt8} {i : Nat} (h1 : sep ≠ []) (h : Lib.index s sep = i) : Lib.split s sep = s.take i :: Lib.split (s.drop (i + sep.length)) sep := by
 unfold Lib.split
 rw [Lib.count_hit h1 h, Nat.add_comm]
 have hm : ¬ (Lib.index s sep == -1) = true := fun e => by have := beq_iff_eq.1 e; omega
 have e : (Lib.index s sep).toNat = i := by omega
 rw [Lib.splitK, if_neg hm, e]
 rfl
theorem split_ne (s sep : List UInt8) : Lib.split s sep ≠ [] := by
 unfold Lib.split
 cases Lib.count s sep with
 | zero => simp [Lib.splitK]
 | succ k =>
  unfold Lib.splitK
  split <;> simp
theorem split_nil {sep : List UInt8} (h1 : sep ≠ []) : Lib.split [] sep = [[]] := by
 refine split_miss ?_
 cases sep with
 | nil => exact absurd rfl h1
 | cons a b => rfl
theorem split_at {s sep : List UInt8} (h1 : sep ≠ []) (h : sep.isPrefixOf s = true) : Lib.split s sep = [] :: Lib.split (s.drop sep.length) sep := by
 have hi : Lib.index s sep = ((0 : Nat) : Int) := by
  cases s with
  | nil =>
   cases sep with
   | nil => exact absurd rfl h1
   | cons a b => simp at h
  | cons b l => unfold Lib.index; rw [if_pos h]; rfl
 rw [split_hit h1 hi]
 simp
theorem split_by {b : UInt8} {l sep : List UInt8} (h1 : sep ≠ []) (h : sep.isPrefixOf (b :: l) = false) : Lib.split (b :: l) sep = glue [b] (Lib.split l sep) := by
 have hx : Lib.index (b :: l) sep = if Lib.index l sep == -1 then -1 else Lib.index l sep + 1 := by rw [Lib.index, h]; simp
 by_cases hm : Lib.index l sep = -1
 ·rw [split_miss hm, split_miss (by rw [hx, if_pos (beq_iff_eq.2 hm)])]
  rfl
 ·have hge := Lib.index_ge l sep
  obtain ⟨j, hj⟩ : ∃ j : Nat, Lib.index l sep = j := ⟨(Lib.index l sep).toNat, by omega⟩
  have hx' : Lib.index (b :: l) sep = ((j + 1 : Nat) : Int) := by rw [hx, if_neg (fun e => hm (beq_iff_eq.1 e)), hj]; omega
  rw [split_hit h1 hj, split_hit h1 hx']
  simp [glue, Nat.add_right_comm]
theorem split_one_at (c : UInt8) (l : List UInt8) : Lib.split (c :: l) [c] = [] :: Lib.split l [c] := by
 rw [split_at (sep := [c]) (by simp) (by unfold List.isPrefixOf; simp)]
 rfl
theorem split_one_by {b c : UInt8} (l : List UInt8) (h : ¬ b = c) : Lib.split (b :: l) [c] = glue [b] (Lib.split l [c]) :=
 split_by (by simp) (by
  unfold List.isPrefixOf
  rw [show (c == b) = false from by simpa using fun e => h e.symm]
  rfl)
def ofL (l : List UInt8) : ByteArray := ⟨l.toArray⟩
theorem ofL_data (s : ByteArray) : ofL s.data.toList = s := by cases s; simp [ofL]
theorem ofL_size (l : List UInt8) : (ofL l).size = l.length := by simp [ofL, ByteArray.size]
def piecesB (s sep : ByteArray) : List ByteArray := (Lib.split s.data.toList sep.data.toList).map ofL
theorem splitB_pieces (s sep : ByteArray) : Lib.splitB sep 0 (Lib.countB s sep) s = piecesB s sep := by
 have h := Lib.splitB_data sep 0 (Lib.countB s sep) s
 unfold piecesB Lib.split
 rw [← h, List.map_map]
 conv => lhs; rw [← List.map_id (Lib.splitB sep 0 (Lib.countB s sep) s)]
 exact List.map_congr_left (fun x _ => by simp [ofL_data])
theorem extract_ofL (s : ByteArray) (a b : Nat) : s.extract a b = ofL ((s.data.toList.drop a).take (b - a)) := by
 rw [← ofL_data (s.extract a b), Lib.extract_data]
theorem data_drop {s : ByteArray} {i : Nat} (h : i < s.size) : ∃ b : UInt8, s.data.toList.drop i = b :: s.data.toList.drop (i + 1) ∧ bt s (i : Int) = (b.toNat : Int) ∧ s.data.toList[i]? = some b := by
 have hl : i < s.data.toList.length := by simpa using h
 refine ⟨s.data.toList[i], List.drop_eq_getElem_cons hl, ?_, List.getElem?_eq_getElem hl⟩
 rw [bt_bs]
 unfold bs
 rw [List.getD_eq_getElem?_getD, Int.toNat_natCast, List.getElem?_map, List.getElem?_eq_getElem hl]
 rfl
theorem pieces_mem {s sep : ByteArray} (h1 : sep.data.toList ≠ []) : ∀ x ∈ piecesB s sep, x.size ≤ s.size := by
 have main : ∀ (n : Nat) (l : List UInt8), l.length = n → ∀ x ∈ Lib.split l sep.data.toList, x.length ≤ n := by
  intro n
  induction n using Nat.strongRecOn with
  | _ n ih =>
   intro l hl x hx
   rcases Lib.index_spec l sep.data.toList with ⟨hm, _⟩ | ⟨i, hi, hle, _, _⟩
   ·rw [split_miss hm] at hx
    obtain rfl := List.mem_singleton.1 hx
    omega
   ·rw [split_hit h1 hi] at hx
    have hp : 0 < sep.data.toList.length := List.length_pos_iff.2 h1
    have hr := Lib.index_room l sep.data.toList (by omega)
    rcases List.mem_cons.1 hx with rfl | hx
    ·rw [List.length_take]; omega
    ·have := ih (l.length - (i + sep.data.toList.length)) (by omega) _ (by rw [List.length_drop]) x hx
     omega
 intro x hx
 obtain ⟨u, hu, rfl⟩ := List.mem_map.1 hx
 rw [ofL_size]
 have := main _ _ rfl u hu
 rwa [show s.data.toList.length = s.size from by simp] at this
theorem pieces_length {s sep : ByteArray} (h1 : 1 ≤ sep.size) : (piecesB s sep).length ≤ s.size + 1 := by
 rw [← splitB_pieces]
 have := Lib.splitB_length_le sep 0 (Lib.countB s sep) s
 have := Lib.countB_le sep h1 s.size s (Nat.le_refl _)
 omega
end Go.Proofs.YtbaeljcnbkeipaaDoor.Pure
namespace Go.Proofs.YtbaeljcnbkeipaaDoor.Pure
open Go.RowKit Go.Proofs.YtbaeljcnbkeipaaDoor.PGC Go.Proofs.YtbaeljcnbkeipaaDoorW.PrintWords Go.Proofs.YtbaeljcnbkeipaaDoorW.PrintLast Go.Proofs.YtbaeljcnbkeipaaDoor.Aux
theorem spec_split_l (s : ByteArray) (c : UInt8) (hs : s.size ≤ 16777216) (d : Nat) : ∀ (i fr : Nat) (out : List ByteArray), i + d = s.size → fr ≤ i → out.length ≤ i →
  Ev (fun k => spec_Split.l0 k s (c.toNat : Int) out (fr : Int) (i : Int)) (out ++ (glue ((s.data.toList.drop fr).take (i - fr)) (Lib.split (s.data.toList.drop i) [c])).map ofL) := by
 induction d with
 | zero =>
  intro i fr out hi hf ho
  obtain rfl : i = s.size := by omega
  have h3 := wrap64_id (i := (s.size : Int) + 1) (by omega) (by omega)
  have hd : s.data.toList.drop s.size = [] := List.drop_eq_nil_of_le (by simp)
  refine Ev.succ ?_
  simp only [spec_Split.l0, Int.le_refl, if_true, show (0 : Int) ≤ (fr : Int) by omega, show (fr : Int) ≤ (s.size : Int) by omega, show out.length < 8796093022208 by omega, h3]
  refine Ev.succ ?_
  simp only [spec_Split.l0, show ¬ ((s.size : Int) + 1 ≤ (s.size : Int)) by omega, if_false]
  refine Ev.cast Ev.some ?_
  rw [hd, split_nil (by simp)]
  simp only [glue, List.append_nil, List.map_cons, List.map_nil, Int.toNat_natCast, extract_ofL]
 | succ d ih =>
  intro i fr out hi hf ho
  have hlt : i < s.size := by omega
  have h3 := next_i hlt (by omega)
  obtain ⟨b, hb, hbt, hg⟩ := data_drop hlt
  refine Ev.succ ?_
  simp only [spec_Split.l0, show (i : Int) ≤ (s.size : Int) by omega, show ¬ (i : Int) = (s.size : Int) by omega, show (0 : Int) ≤ (i : Int) by omega, show (i : Int) < (s.size : Int) by omega, if_true, if_false, h3, hbt]
  by_cases h : b = c
  ·subst h
   simp only [show (0 : Int) ≤ (fr : Int) by omega, show (fr : Int) ≤ (i : Int) by omega, show out.length < 8796093022208 by omega, if_true]
   refine Ev.cast (ih (i + 1) (i + 1) _ (by omega) (by omega) (by simp; omega)) ?_
   rw [hb, split_one_at, Nat.sub_self, List.take_zero, glue_nil (split_ne _ _)]
   simp only [glue, List.append_nil, List.map_cons, List.append_assoc, List.singleton_append, Int.toNat_natCast, extract_ofL]
  ·have hne : ¬ ((b.toNat : Int) = (c.toNat : Int)) := fun e => h (UInt8.toNat_inj.1 (by omega))
   simp only [hne, if_false]
   refine Ev.cast (ih (i + 1) fr out (by omega) (by omega) (by omega)) ?_
   rw [hb, split_one_by _ h, glue_glue _ _ _ (split_ne _ _)]
   congr 3
   have hx : (s.data.toList.drop fr)[i - fr]? = some b := by rw [List.getElem?_drop, show fr + (i - fr) = i by omega, hg]
   rw [show i + 1 - fr = (i - fr) + 1 by omega, List.take_add_one, hx]
   rfl
theorem spec_split (s : ByteArray) (c : UInt8) (hs : s.size ≤ 16777216) : Ev (fun k => spec_Split.f k s (c.toNat : Int)) (piecesB s ⟨#[c]⟩) := by
 unfold spec_Split.f
 refine Ev.cast (spec_split_l s c hs s.size 0 0 [] (by omega) (by omega) (by simp)) ?_
 rw [List.nil_append, List.drop_zero, Nat.sub_self, List.take_zero, glue_nil (split_ne _ _)]
 rfl
theorem strings_split (s : ByteArray) (c : UInt8) (hs : s.size ≤ 16777216) : strings_Split.f s ⟨#[c]⟩ = some (piecesB s ⟨#[c]⟩) := by
 unfold strings_Split.f
 rw [if_pos ⟨by omega, by show 1 ≤ 1; omega⟩, splitB_pieces]
def pathC (x : Int) : Bool := smallB x || (digitB x || (decide (x = 46) || (decide (x = 45) || decide (x = 95))))
theorem letter_spec {x : Int} (h : 0 ≤ x ∧ x ≤ 255) : spec_l5Letter.f x = some (pathC x) := by
 unfold spec_l5Letter.f pathC
 simp only [small_spec h, digit_spec h, Option.bind_some]
 cases smallB x <;> cases digitB x <;> simp
 by_cases h1 : x = 46 <;> by_cases h2 : x = 45 <;> simp [h1, h2]
 rfl
theorem letter_impl (x : Int) : impl_isPathByte.f x = some (pathC x) := by
 unfold impl_isPathByte.f pathC
 simp only [small_impl, digit_impl, Option.bind_some]
 cases smallB x <;> cases digitB x <;> simp
 by_cases h1 : x = 46 <;> by_cases h2 : x = 45 <;> simp [h1, h2]
 rfl
def slash : ByteArray := ⟨#[47]⟩
theorem slash_pieces {s : ByteArray} (hs : s.size ≤ 16777216) : (piecesB s slash).length ≤ 9223372036854775807 ∧ ∀ x ∈ piecesB s slash, x.size ≤ 9223372036854775807 := by
 have h := pieces_length (s := s) (sep := slash) (Nat.le_refl _)
 exact ⟨by omega, fun x hx => by have := pieces_mem (sep := slash) (by simp [slash]) x hx; omega⟩
def nameEnd (s : ByteArray) : Bool := inB s.size 1 12 && (!decide (s.toList = ([46] : List UInt8)) && (s.toList != ([46, 46] : List UInt8)))
def fnameB (s : ByteArray) : Bool := (bs s).all pathC && nameEnd s
theorem spec_fname_l (s : ByteArray) (hs : s.size ≤ 9223372036854775807) (d : Nat) : ∀ i : Nat, i + d = s.size → Ev (fun k => spec_l5Name.l0 k s (i : Int)) (((bs s).drop i).all pathC && nameEnd s) := by
 induction d with
 | zero =>
  intro i hi
  have h1 : ¬ (i : Int) < (s.size : Int) := by omega
  refine Ev.succ ?_
  simp only [spec_l5Name.l0, h1, if_false, bs_end (show s.size ≤ i by omega), List.all_nil, Bool.true_and, in_f, Option.bind_some, nameEnd]
  cases hb : inB (s.size : Int) 1 12 with
  | false => simpa using Ev.some
  | true =>
   simp only [if_true]
   by_cases h : s.toList = ([46] : List UInt8)
   ·simpa [h] using Ev.some
   ·simpa [h] using Ev.some
 | succ d ih =>
  intro i hi
  have h1 : (i : Int) < (s.size : Int) := by omega
  have h2 : (0 : Int) ≤ (i : Int) := by omega
  have h3 := next_i (show i < s.size by omega) hs
  have ih' := ih (i + 1) (by omega)
  refine Ev.succ ?_
  rw [bs_drop (by omega), List.all_cons]
  simp only [spec_l5Name.l0, h1, h2, h3, if_true, letter_spec (bt_range s i), Option.bind_some]
  cases hp : pathC (bt s (i : Int)) with
  | true => simpa using ih'
  | false => simpa using Ev.some
theorem spec_fname (s : ByteArray) (hs : s.size ≤ 9223372036854775807) : Ev (fun k => spec_l5Name.f k s) (fnameB s) := spec_fname_l s hs s.size 0 (by omega)
theorem impl_fname_l (s : ByteArray) (hs : s.size ≤ 9223372036854775807) (d : Nat) : ∀ i : Nat, i + d = s.size → Ev (fun k => impl_fileNameOk.l0 k s (i : Int)) (((bs s).drop i).all pathC && nameEnd s) := by
 induction d with
 | zero =>
  intro i hi
  have h1 : ¬ (i : Int) < (s.size : Int) := by omega
  refine Ev.succ ?_
  simp only [impl_fileNameOk.l0, h1, if_false, bs_end (show s.size ≤ i by omega), List.all_nil, Bool.true_and, inRange_f, Option.bind_some, nameEnd]
  cases hb : inB (s.size : Int) 1 12 with
  | false => simpa using Ev.some
  | true =>
   simp only [if_true]
   by_cases h : s.toList = ([46] : List UInt8)
   ·simpa [h] using Ev.some
   ·simpa [h] using Ev.some
 | succ d ih =>
  intro i hi
  have h1 : (i : Int) < (s.size : Int) := by omega
  have h2 : (0 : Int) ≤ (i : Int) := by omega
  have h3 := next_i (show i < s.size by omega) hs
  have ih' := ih (i + 1) (by omega)
  refine Ev.succ ?_
  rw [bs_drop (by omega), List.all_cons]
  simp only [impl_fileNameOk.l0, h1, h2, h3, if_true, letter_impl, Option.bind_some]
  cases hp : pathC (bt s (i : Int)) with
  | true => simpa using ih'
  | false => simpa using Ev.some
theorem impl_fname (s : ByteArray) (hs : s.size ≤ 9223372036854775807) : Ev (fun k => impl_fileNameOk.f k s) (fnameB s) := impl_fname_l s hs s.size 0 (by omega)
def pathB (s : ByteArray) : Bool := (piecesB s slash).all fnameB && decide (((piecesB s slash).length : Int) ≤ 4)
theorem spec_path_l (l : List ByteArray) (hl : l.length ≤ 9223372036854775807) (hs : ∀ x ∈ l, x.size ≤ 9223372036854775807) (d : Nat) : ∀ i : Nat, i + d = l.length → Ev (fun k => spec_PathOk.l0 k l (i : Int)) ((l.drop i).all fnameB && decide ((l.length : Int) ≤ 4)) := by
 induction d with
 | zero =>
  intro i hi
  have h1 : ¬ (i : Int) < (l.length : Int) := by omega
  refine Ev.succ ?_
  rw [List.drop_eq_nil_of_le (by omega)]
  simp only [spec_PathOk.l0, h1, if_false, List.all_nil, Bool.true_and]
  exact Ev.some
 | succ d ih =>
  intro i hi
  have hlt : i < l.length := by omega
  have h1 : (i : Int) < (l.length : Int) := by omega
  have h2 : (0 : Int) ≤ (i : Int) := by omega
  have h3 := next_i hlt hl
  have ih' := ih (i + 1) (by omega)
  refine Ev.succ ?_
  rw [drop_get hlt, List.all_cons]
  simp only [spec_PathOk.l0, h1, h2, h3, if_true, rdOf_cast _ hlt]
  refine Ev.bind (spec_fname l[i] (hs _ (List.getElem_mem hlt))) ?_
  cases hp : fnameB l[i] with
  | true => simpa using ih'
  | false => simpa using Ev.some
theorem impl_path_l (l : List ByteArray) (hl : l.length ≤ 9223372036854775807) (hs : ∀ x ∈ l, x.size ≤ 9223372036854775807) (d : Nat) : ∀ i : Nat, i + d = l.length → Ev (fun k => impl_PathOk.l0 k l l (l.length : Int) (i : Int)) ((l.drop i).all fnameB && decide ((l.length : Int) ≤ 4)) := by
 induction d with
 | zero =>
  intro i hi
  have h1 : ¬ (i : Int) < (l.length : Int) := by omega
  refine Ev.succ ?_
  rw [List.drop_eq_nil_of_le (by omega)]
  simp only [impl_PathOk.l0, h1, if_false, List.all_nil, Bool.true_and]
  exact Ev.some
 | succ d ih =>
  intro i hi
  have hlt : i < l.length := by omega
  have h1 : (i : Int) < (l.length : Int) := by omega
  have h2 : (0 : Int) ≤ (i : Int) := by omega
  have h3 := next_i hlt hl
  have ih' := ih (i + 1) (by omega)
  refine Ev.succ ?_
  rw [drop_get hlt, List.all_cons]
  simp only [impl_PathOk.l0, h1, h2, h3, if_true, rdOf_cast _ hlt]
  refine Ev.bind (impl_fname l[i] (hs _ (List.getElem_mem hlt))) ?_
  cases hp : fnameB l[i] with
  | true => simpa using ih'
  | false => simpa using Ev.some
theorem spec_path (s : ByteArray) (hs : s.size ≤ 16777216) : Ev (fun k => spec_PathOk.f k s) (pathB s) := by
 unfold spec_PathOk.f
 have h := slash_pieces hs
 refine Ev.bind (spec_split s 47 hs) ?_
 exact spec_path_l _ h.1 h.2 _ 0 (Nat.zero_add _)
theorem impl_path (s : ByteArray) (hs : s.size ≤ 16777216) : Ev (fun k => impl_PathOk.f k s) (pathB s) := by
 unfold impl_PathOk.f
 have h := slash_pieces hs
 rw [strings_split s 47 hs]
 simp only [Option.bind_some]
 exact impl_path_l _ h.1 h.2 _ 0 (Nat.zero_add _)
def fileB (x : S31) : Bool := pathB x.f0 && !decide ((x.f1.size : Int) > 60)
def filesFrom : Option ByteArray → List S31 → Bool
 | _, [] => true
 | p, x :: r => fileB x && ((match p with | none => true | some q => Op.bytesLess q.toList x.f0.toList) && filesFrom (some x.f0) r)
def filesB (l : List S31) : Bool := filesFrom none l && decide ((l.length : Int) ≤ 30)
def prevOf (l : List S31) (i : Nat) : Option ByteArray := if i = 0 then none else some (l.getD (i - 1) ⟨⟨#[]⟩, ⟨#[]⟩⟩).f0
theorem prev_next {l : List S31} {i : Nat} (h : i < l.length) : prevOf l (i + 1) = some l[i].f0 := by
 unfold prevOf
 rw [if_neg (by omega), Nat.add_sub_cancel, List.getD_eq_getElem?_getD, List.getElem?_eq_getElem h]
 rfl
theorem spec_files_l (l : List S31) (hl : l.length ≤ 9223372036854775807) (hs : ∀ x ∈ l, x.f0.size ≤ 16777216) (d : Nat) : ∀ i : Nat, i + d = l.length → Ev (fun k => spec_FilesOk.l0 k l (i : Int)) (filesFrom (prevOf l i) (l.drop i) && decide ((l.length : Int) ≤ 30)) := by
 induction d with
 | zero =>
  intro i hi
  have h1 : ¬ (i : Int) < (l.length : Int) := by omega
  refine Ev.succ ?_
  rw [List.drop_eq_nil_of_le (by omega)]
  simp only [spec_FilesOk.l0, h1, if_false, filesFrom, Bool.true_and]
  exact Ev.some
 | succ d ih =>
  intro i hi
  have hlt : i < l.length := by omega
  have h1 : (i : Int) < (l.length : Int) := by omega
  have h2 : (0 : Int) ≤ (i : Int) := by omega
  have h3 := next_i hlt hl
  have ih' := ih (i + 1) (by omega)
  rw [prev_next hlt] at ih'
  have hg : rd_T31 l (i : Int) = l[i] := rdD_cast _ hlt
  refine Ev.succ ?_
  rw [drop_get hlt]
  simp only [spec_FilesOk.l0, h1, h2, h3, if_true, hg, filesFrom, fileB]
  refine Ev.bind (spec_path l[i].f0 (hs _ (List.getElem_mem hlt))) ?_
  cases hp : pathB l[i].f0 with
  | false => simpa using Ev.some
  | true =>
   simp only [if_true, Bool.true_and]
   by_cases hz : (l[i].f1.size : Int) > 60
   ·simpa [hz] using Ev.some
   ·simp only [hz, if_false, decide_false, Bool.not_false, Bool.true_and]
    by_cases h0 : i = 0
    ·subst h0
     simpa [prevOf] using ih'
    ·have hp0 : (i : Int) > 0 := by omega
     have hw : wrap64 ((i : Int) - 1) = ((i - 1 : Nat) : Int) := by rw [wrap64_id (by omega) (by omega)]; omega
     have hgp : rd_T31 l ((i - 1 : Nat) : Int) = l[i - 1] := rdD_cast _ (by omega)
     have hpv : prevOf l i = some l[i - 1].f0 := by
      have := prev_next (l := l) (i := i - 1) (by omega)
      rwa [Nat.sub_add_cancel (by omega)] at this
     simp only [hp0, if_true, hw, show (0 : Int) ≤ ((i - 1 : Nat) : Int) by omega, show ((i - 1 : Nat) : Int) < (l.length : Int) by omega, hgp, hpv]
     cases hb : Op.bytesLess l[i - 1].f0.toList l[i].f0.toList with
     | true => simpa using ih'
     | false => simpa using Ev.some
theorem spec_files (l : List S31) (hl : l.length ≤ 9223372036854775807) (hs : ∀ x ∈ l, x.f0.size ≤ 16777216) : Ev (fun k => spec_FilesOk.f k l) (filesB l) := spec_files_l l hl hs l.length 0 (by omega)
theorem impl_files_l (l : List S31) (hl : l.length ≤ 9223372036854775807) (hs : ∀ x ∈ l, x.f0.size ≤ 16777216) (d : Nat) : ∀ i : Nat, i + d = l.length → Ev (fun k => impl_FilesOk.l0 k l l (l.length : Int) (i : Int)) (filesFrom (prevOf l i) (l.drop i) && decide ((l.length : Int) ≤ 30)) := by
 induction d with
 | zero =>
  intro i hi
  have h1 : ¬ (i : Int) < (l.length : Int) := by omega
  refine Ev.succ ?_
  rw [List.drop_eq_nil_of_le (by omega)]
  simp only [impl_FilesOk.l0, h1, if_false, filesFrom, Bool.true_and]
  exact Ev.some
 | succ d ih =>
  intro i hi
  have hlt : i < l.length := by omega
  have h1 : (i : Int) < (l.length : Int) := by omega
  have h2 : (0 : Int) ≤ (i : Int) := by omega
  have h3 := next_i hlt hl
  have ih' := ih (i + 1) (by omega)
  rw [prev_next hlt] at ih'
  have hg : rd_T31 l (i : Int) = l[i] := rdD_cast _ hlt
  refine Ev.succ ?_
  rw [drop_get hlt]
  simp only [impl_FilesOk.l0, h1, h2, h3, if_true, hg, filesFrom, fileB]
  refine Ev.bind (impl_path l[i].f0 (hs _ (List.getElem_mem hlt))) ?_
  cases hp : pathB l[i].f0 with
  | false => simpa using Ev.some
  | true =>
   simp only [if_true, Bool.true_and]
   by_cases hz : (l[i].f1.size : Int) > 60
   ·simpa [hz] using Ev.some
   ·simp only [hz, if_false, decide_false, Bool.not_false, Bool.true_and]
    by_cases h0 : i = 0
    ·subst h0
     simpa [prevOf] using ih'
    ·have hp0 : (i : Int) > 0 := by omega
     have hw : wrap64 ((i : Int) - 1) = ((i - 1 : Nat) : Int) := by rw [wrap64_id (by omega) (by omega)]; omega
     have hgp : rd_T31 l ((i - 1 : Nat) : Int) = l[i - 1] := rdD_cast _ (by omega)
     have hpv : prevOf l i = some l[i - 1].f0 := by
      have := prev_next (l := l) (i := i - 1) (by omega)
      rwa [Nat.sub_add_cancel (by omega)] at this
     simp only [hp0, if_true, hw, show (0 : Int) ≤ ((i - 1 : Nat) : Int) by omega, show ((i - 1 : Nat) : Int) < (l.length : Int) by omega, hgp, hpv]
     cases hb : Op.bytesLess l[i - 1].f0.toList l[i].f0.toList with
     | true => simpa using ih'
     | false => simpa using Ev.some
theorem impl_files (l : List S31) (hl : l.length ≤ 9223372036854775807) (hs : ∀ x ∈ l, x.f0.size ≤ 16777216) : Ev (fun k => impl_FilesOk.f k l) (filesB l) := impl_files_l l hl hs l.length 0 (by omega)
def restP (f : S31) : List S31 → Bool → List S31
 | [], done => if done = true then [] else [f]
 | x :: l, done => if x.f0.toList = f.f0.toList then restP f l done else if done = true then x :: restP f l done else if Op.bytesLess f.f0.toList x.f0.toList = true then f :: x :: restP f l true else x :: restP f l false
theorem put_cons (f x : S31) (l : List S31) : impl_PutFile.put f (x :: l) = if Op.bytesLess x.f0.toList f.f0.toList = true then x :: impl_PutFile.put f l else f :: x :: l := by
 unfold impl_PutFile.put impl_PutFile.at
 rw [List.takeWhile_cons]
 split <;> simp
theorem restP_true (f : S31) : ∀ l, restP f l true = impl_PutFile.o1 f.f0 l
 | [] => rfl
 | x :: l => by
  have ih := restP_true f l
  unfold restP impl_PutFile.o1
  rw [ih]
  unfold impl_PutFile.o1
  by_cases h : x.f0.toList = f.f0.toList <;> simp [h]
theorem restP_put (f : S31) : ∀ l, restP f l false = impl_PutFile.put f (impl_PutFile.o1 f.f0 l)
 | [] => rfl
 | x :: l => by
  have ih := restP_put f l
  unfold restP
  by_cases h : x.f0.toList = f.f0.toList
  ·have e : impl_PutFile.o1 f.f0 (x :: l) = impl_PutFile.o1 f.f0 l := by unfold impl_PutFile.o1; simp [h]
   rw [if_pos h, e, ih]
  ·have e : impl_PutFile.o1 f.f0 (x :: l) = x :: impl_PutFile.o1 f.f0 l := by unfold impl_PutFile.o1; simp [h]
   have ht := Go.Proofs.YtbaeljcnbkeipaaDoor.Mine.less_turned f.f0.toList x.f0.toList
   have hb : (f.f0.toList == x.f0.toList) = false := beq_eq_false_iff_ne.2 (fun e => h e.symm)
   rw [hb, Bool.or_false] at ht
   rw [if_neg h, if_neg (by simp), e, put_cons, ht]
   cases Op.bytesLess f.f0.toList x.f0.toList with
   | true => simp [restP_true]
   | false => simp [ih]
theorem spec_put_l (l : List S31) (f : S31) (hl : l.length ≤ 16777216) (d : Nat) : ∀ (i : Nat) (out : List S31) (done : Bool), i + d = l.length → out.length ≤ i + (if done = true then 1 else 0) →
  Ev (fun k => spec_l5Put.l0 k l out done (i : Int) f.f0 f.f1) (out ++ restP f (l.drop i) done) := by
 induction d with
 | zero =>
  intro i out done hi ho
  have ho' : out.length ≤ i + 1 := by split at ho <;> omega
  have h1 : ¬ (i : Int) < (l.length : Int) := by omega
  rw [List.drop_eq_nil_of_le (by omega)]
  refine Ev.succ ?_
  simp only [spec_l5Put.l0, h1, if_false, show out.length < 4398046511104 by omega, if_true]
  cases done with
  | true => simpa [restP] using Ev.some
  | false => simpa [restP] using Ev.some
 | succ d ih =>
  intro i out done hi ho
  have hlt : i < l.length := by omega
  have ho' : out.length ≤ i + 1 := by split at ho <;> omega
  have h1 : (i : Int) < (l.length : Int) := by omega
  have h2 : (0 : Int) ≤ (i : Int) := by omega
  have h3 := next_i hlt (by omega)
  have hg : rd_T31 l (i : Int) = l[i] := rdD_cast _ hlt
  refine Ev.succ ?_
  simp only [spec_l5Put.l0, h1, if_true]
  refine Ev.succ ?_
  simp only [spec_l5Put.j1, h1, h2, if_true, hg, h3, show out.length < 4398046511104 by omega, Option.bind_some, List.length_append, List.length_cons, List.length_nil, show out.length + (0 + 1) < 4398046511104 by omega]
  rw [drop_get hlt]
  unfold restP
  by_cases h : l[i].f0.toList = f.f0.toList
  ·simp only [h, if_true]
   exact ih (i + 1) out done (by omega) (by omega)
  ·simp only [h, if_false]
   cases done with
   | true =>
    simp only [if_true]
    refine Ev.cast (ih (i + 1) (out ++ [l[i]]) true (by omega) ?_) (by simp)
    simp only [if_true] at ho ⊢
    rw [List.length_append, List.length_singleton]
    omega
   | false =>
    simp only [Bool.false_eq_true, if_false] at ho ⊢
    cases hb : Op.bytesLess f.f0.toList l[i].f0.toList with
    | true =>
     simp only [if_true]
     refine Ev.cast (ih (i + 1) ((out ++ [f]) ++ [l[i]]) true (by omega) ?_) (by simp)
     simp only [if_true, List.length_append, List.length_singleton]
     omega
    | false =>
     simp only [Bool.false_eq_true, if_false]
     refine Ev.cast (ih (i + 1) (out ++ [l[i]]) false (by omega) ?_) (by simp)
     simp only [Bool.false_eq_true, if_false, List.length_append, List.length_singleton]
     omega
theorem spec_put_row (l : List S31) (f : S31) (hl : l.length ≤ 16777216) : Ev (fun k => spec_l5Put.f k l f.f0 f.f1) (impl_PutFile.put f (impl_PutFile.o1 f.f0 l)) := by
 have := spec_put_l l f hl l.length 0 [] false (by omega) (by simp)
 rw [List.drop_zero, List.nil_append, restP_put] at this
 exact this
def putM (l : List S31) (f : S31) : List S31 × Bool :=
 if filesB (impl_PutFile.put f (impl_PutFile.o1 f.f0 l)) = true then (impl_PutFile.put f (impl_PutFile.o1 f.f0 l), true) else (l, false)
theorem put_mem {l : List S31} {f x : S31} (h : x ∈ impl_PutFile.put f l) : x = f ∨ x ∈ l := by
 unfold impl_PutFile.put at h
 simp only [List.mem_append, List.mem_singleton] at h
 rcases h with (h | h) | h
 ·exact .inr (List.mem_of_mem_take h)
 ·exact .inl h
 ·exact .inr (List.mem_of_mem_drop h)
theorem put_length (l : List S31) (f : S31) : (impl_PutFile.put f l).length = l.length + 1 := by
 have := impl_PutFile.at_le f.f0 l
 unfold impl_PutFile.put
 simp only [List.length_append, List.length_take, List.length_drop, List.length_singleton]
 omega
theorem o1_length (p : ByteArray) (l : List S31) : (impl_PutFile.o1 p l).length ≤ l.length := List.length_filter_le _ _
theorem o1_mem {p : ByteArray} {l : List S31} {x : S31} (h : x ∈ impl_PutFile.o1 p l) : x ∈ l := (List.mem_filter.1 h).1
theorem putRow_mem {l : List S31} {f x : S31} (h : x ∈ impl_PutFile.put f (impl_PutFile.o1 f.f0 l)) : x = f ∨ x ∈ l := (put_mem h).imp_right o1_mem
theorem spec_put (l : List S31) (f : S31) (hl : l.length ≤ 16777215) (hf : f.f0.size ≤ 16777216) (hs : ∀ x ∈ l, x.f0.size ≤ 16777216) : Ev (fun k => spec_PutFile.f k l f.f0 f.f1) (putM l f) := by
 unfold spec_PutFile.f putM
 simp only [Option.bind_some, List.length_nil, Nat.zero_add, show l.length < 4398046511104 by omega, if_true, List.nil_append]
 refine Ev.bind (spec_put_row l f (by omega)) ?_
 refine Ev.bind (spec_files _ (by rw [put_length]; have := o1_length f.f0 l; omega) (fun x hx => (putRow_mem hx).elim (fun e => e ▸ hf) (hs x))) ?_
 cases filesB (impl_PutFile.put f (impl_PutFile.o1 f.f0 l)) with
 | true => simpa using Ev.some
 | false => simpa using Ev.some
theorem impl_put (l : List S31) (f : S31) (hl : l.length ≤ 16777215) (hf : f.f0.size ≤ 16777216) (hs : ∀ x ∈ l, x.f0.size ≤ 16777216) : Ev (fun k => impl_PutFile.f k l f.f0 f.f1) (putM l f) := by
 have hc : impl_File_59.f l = some l := by
  unfold impl_File_59.f
  simp only [Option.bind_some, List.length_nil, Nat.zero_add, show l.length < 4398046511104 by omega, if_true, List.nil_append]
 unfold impl_PutFile.f putM
 simp only [hc, Option.bind_some]
 refine Ev.bind (impl_files _ (by rw [put_length]; have := o1_length f.f0 l; omega) (fun x hx => (putRow_mem hx).elim (fun e => e ▸ hf) (hs x))) ?_
 cases filesB (impl_PutFile.put f (impl_PutFile.o1 f.f0 l)) with
 | true => simpa using Ev.some
 | false => simpa using Ev.some
theorem putM_mem (l : List S31) (f : S31) : (putM l f).1.length ≤ l.length + 1 ∧ ∀ x ∈ (putM l f).1, x = f ∨ x ∈ l := by
 unfold putM
 split
 ·exact ⟨by show (impl_PutFile.put f _).length ≤ _; rw [put_length]; have := o1_length f.f0 l; omega, fun _ h => putRow_mem h⟩
 ·exact ⟨Nat.le_succ _, fun _ h => .inr h⟩
end Go.Proofs.YtbaeljcnbkeipaaDoor.Pure
