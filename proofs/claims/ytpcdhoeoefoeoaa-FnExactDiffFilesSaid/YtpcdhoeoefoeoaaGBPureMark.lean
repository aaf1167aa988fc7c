/- What the marks come to that the laws put into slices of strings, and what is held of them. -/
import Derived.Test.YtpcdhoeoefoeoaaGBPureStr
import Derived.Test.YtpcdhoeoefoeoaaPGBx4
set_option linter.unusedVariables false
set_option linter.unusedSimpArgs false
namespace Go.Proofs.Ytpcdhoeoefoeoaa.Pure
open Go.RowKit Go.Proofs.Ytpcdhoeoefoeoaa.PGB Go.Proofs.YtpcdhoeoefoeoaaW.PrintWords Go.Proofs.YtpcdhoeoefoeoaaW.PrintLast Go.Proofs.Ytpcdhoeoefoeoaa.Aux

theorem strOfNums_size (l : List Int) : (strOfNums l).size = l.length := by
  unfold strOfNums
  simp [ByteArray.size]
theorem markText_l (n : Nat) : ∀ (x : Nat) (t : ByteArray), x ≤ n → x + t.size ≤ 1099511627776 → ∃ r, Ev (fun k => laws_markText.l0 k (x : Int) t) r := by
  induction n with
  | zero =>
    intro x t hx ht
    obtain rfl : x = 0 := by omega
    refine ⟨(⟨#[109]⟩ : ByteArray) ++ t, Ev.succ ?_⟩
    · simp only [laws_markText.l0, show ¬ ((0 : Nat) : Int) > 0 by omega, if_false, show 1 + t.size ≤ 9223372036854775807 by omega, if_true]
      exact Ev.some
  | succ n ih =>
    intro x t hx ht
    by_cases h0 : x = 0
    · subst h0
      refine ⟨(⟨#[109]⟩ : ByteArray) ++ t, Ev.succ ?_⟩
      · simp only [laws_markText.l0, show ¬ ((0 : Nat) : Int) > 0 by omega, if_false, show 1 + t.size ≤ 9223372036854775807 by omega, if_true]
        exact Ev.some
    · have hd : wrap64 (Int.tdiv (x : Int) 10) = ((x / 10 : Nat) : Int) := by
        rw [Int.tdiv_eq_ediv_of_nonneg (by omega)]
        rw [wrap64_id (by omega) (by omega)]
        omega
      have hsz : (strOfNums [wrap64 (48 + Int.tmod (x : Int) 10) % 256]).size = 1 := strOfNums_size _
      obtain ⟨r, hr⟩ := ih (x / 10) (strOfNums [wrap64 (48 + Int.tmod (x : Int) 10) % 256] ++ t) (by omega) (by rw [ByteArray.size_append, hsz]; omega)
      refine ⟨r, Ev.succ ?_⟩
      simp only [laws_markText.l0, show (x : Int) > 0 by omega, if_true, Option.bind_some, hsz, show 1 + t.size ≤ 9223372036854775807 by omega, hd]
      exact hr
theorem markText_ex (x : Int) (h : x ≤ 4398046511104 / 8) : ∃ r, Ev (fun k => laws_markText.f k x) r := by
  unfold laws_markText.f
  by_cases h0 : x ≤ 0
  · simp only [h0, if_true]
    exact ⟨_, Ev.some⟩
  · simp only [h0, if_false]
    obtain ⟨n, rfl⟩ : ∃ n : Nat, x = n := ⟨x.toNat, by omega⟩
    obtain ⟨r, hr⟩ := markText_l n n (⟨#[]⟩ : ByteArray) (Nat.le_refl _) (by show n + 0 ≤ _; omega)
    refine ⟨r, Ev.succ ?_⟩
    simp only [laws_markText.j0]
    exact hr
open Classical in
/-- The mark of a number. -/
noncomputable def mkT (x : Int) : ByteArray := if h : ∃ r, Ev (fun k => laws_markText.f k x) r then h.choose else ByteArray.empty
theorem markText (x : Int) (h : x ≤ 549755813888) : Ev (fun k => laws_markText.f k x) (mkT x) := by
  have hx := markText_ex x (by omega)
  unfold mkT
  rw [dif_pos hx]
  exact hx.choose_spec
/-- As many marks, one behind the other. -/
noncomputable def mks (x : Int) : Nat → List ByteArray
  | 0 => []
  | n + 1 => mkT x :: mks (x + 1) n
theorem mks_length : ∀ (n : Nat) (x : Int), (mks x n).length = n
  | 0, _ => rfl
  | n + 1, x => by rw [mks, List.length_cons, mks_length n]
theorem mks_get : ∀ (n : Nat) (x : Int) (i : Nat) (h : i < (mks x n).length), (mks x n)[i] = mkT (x + i)
  | 0, _, _, h => absurd h (by simp [mks])
  | n + 1, x, 0, _ => by simp [mks]
  | n + 1, x, i + 1, h => by
    have := mks_get n (x + 1) i (by simpa [mks] using h)
    simp only [mks, List.getElem_cons_succ, this]
    congr 1
    omega

theorem markStringS_l (n : Nat) (x : Int) (hx0 : 0 ≤ x) (hx : x + n ≤ 549755813888) (d : Nat) : ∀ (i : Nat) (l : List ByteArray), i + d = n → l.length = n → l.take i = (mks x n).take i →
    Ev (fun k => laws_markStringS.l0 k l (x + i) (i : Int)) (x + n, mks x n) := by
  induction d with
  | zero =>
    intro i l hi hl he
    obtain rfl : i = n := by omega
    have e : l = mks x i := by rwa [List.take_of_length_le (by omega), List.take_of_length_le (by rw [mks_length]; exact Nat.le_refl _)] at he
    subst e
    have h1 : ¬ (i : Int) < ((mks x i).length : Int) := by omega
    refine Ev.succ ?_
    simp only [laws_markStringS.l0, h1, if_false]
    exact Ev.some
  | succ d ih =>
    intro i l hi hl he
    have h1 : (i : Int) < (l.length : Int) := by omega
    have h2 : (0 : Int) ≤ (i : Int) := by omega
    have h3 := next_i (show i < n by omega) (by omega)
    have h4 : wrap64 (x + i + 1) = x + ((i + 1 : Nat) : Int) := by rw [wrap64_id (by omega) (by omega)]; omega
    refine Ev.succ ?_
    simp only [laws_markStringS.l0, h1, if_true]
    refine Ev.bind (markText (x + i) (by omega)) ?_
    simp only [h2, if_true, h3, h4, Int.toNat_natCast]
    refine ih (i + 1) _ (by omega) (by simpa using hl) ?_
    have := take_set_step (l := l) (m := mks x n) (i := i) (by omega) (by rw [mks_length]; omega) he
    rwa [mks_get n x i (by rw [mks_length]; omega)] at this
theorem markStringS (l : List ByteArray) (x : Int) (hx0 : 0 ≤ x) (hx : x + l.length ≤ 549755813888) : Ev (fun k => laws_markStringS.f k l x) (x + l.length, mks x l.length) := by
  unfold laws_markStringS.f
  have := markStringS_l l.length x hx0 hx l.length 0 l (by omega) rfl (by simp)
  simpa using this
theorem heldStringS_l (n : Nat) (x : Int) (hx0 : 0 ≤ x) (hx : x + n ≤ 549755813888) (d : Nat) : ∀ (i : Nat), i + d = n → Ev (fun k => laws_heldStringS.l0 k (mks x n) (x + i) (i : Int)) (x + n) := by
  induction d with
  | zero =>
    intro i hi
    obtain rfl : i = n := by omega
    have h1 : ¬ (i : Int) < ((mks x i).length : Int) := by rw [mks_length]; omega
    refine Ev.succ ?_
    simp only [laws_heldStringS.l0, h1, if_false]
    exact Ev.some
  | succ d ih =>
    intro i hi
    have hlt : i < (mks x n).length := by rw [mks_length]; omega
    have h1 : (i : Int) < ((mks x n).length : Int) := by omega
    have h2 : (0 : Int) ≤ (i : Int) := by omega
    have h3 := next_i (show i < n by omega) (by omega)
    have h4 : wrap64 (x + i + 1) = x + ((i + 1 : Nat) : Int) := by rw [wrap64_id (by omega) (by omega)]; omega
    refine Ev.succ ?_
    simp only [laws_heldStringS.l0, h1, h2, if_true, rdOf_cast _ hlt, mks_get n x i hlt]
    refine Ev.bind (markText (x + i) (by omega)) ?_
    simp only [if_true, h3, h4]
    exact ih (i + 1) (by omega)
theorem heldStringS (x : Int) (n : Nat) (hx0 : 0 ≤ x) (hx : x + n ≤ 549755813888) : Ev (fun k => laws_heldStringS.f k (mks x n) x) (x + n) := by
  unfold laws_heldStringS.f
  have := heldStringS_l n x hx0 hx n 0 (by omega)
  simpa using this
end Go.Proofs.Ytpcdhoeoefoeoaa.Pure
