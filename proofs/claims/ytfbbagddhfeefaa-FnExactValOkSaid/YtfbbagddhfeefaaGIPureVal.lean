/- What the laws' helpers over values come to: their sizes, copies and comparisons. -/
import Derived.Test.YtfbbagddhfeefaaGIPureStr
import Derived.Test.YtfbbagddhfeefaaOGI
import Derived.Test.YtfbbagddhfeefaaPGIx1
import Derived.Test.YtfbbagddhfeefaaPGIx3
set_option linter.unusedVariables false
set_option linter.unusedSimpArgs false
namespace Go.Proofs.Ytfbbagddhfeefaa.Pure
open Go.RowKit Go.Proofs.Ytfbbagddhfeefaa.PGI Go.Proofs.YtfbbagddhfeefaaW.PrintWords Go.Proofs.YtfbbagddhfeefaaW.PrintLast Go.Proofs.Ytfbbagddhfeefaa.Aux

theorem all_mem {β : Type} {P : β → Nat → Prop} : ∀ (l : List β), (∀ x ∈ l, ∃ K, ∀ k, K ≤ k → P x k) → ∃ K, ∀ k, K ≤ k → ∀ x ∈ l, P x k
  | [], _ => ⟨0, fun _ _ _ h => by cases h⟩
  | y :: r, h => by
    obtain ⟨K, hK⟩ := h y (List.mem_cons_self ..)
    obtain ⟨K', hK'⟩ := all_mem r (fun x hx => h x (List.mem_cons_of_mem _ hx))
    refine ⟨max K K', fun k hk x hx => ?_⟩
    rcases List.mem_cons.1 hx with e | hx
    · rw [e]; exact hK k (by omega)
    · exact hK' k (by omega) x hx
theorem all_le {P : Int → Nat → Prop} (N : Nat) (h : ∀ a : Int, 0 ≤ a → a ≤ (N : Int) → ∃ K, ∀ k, K ≤ k → P a k) : ∃ K, ∀ k, K ≤ k → ∀ a : Int, 0 ≤ a → a ≤ (N : Int) → P a k := by
  obtain ⟨K, hK⟩ := all_mem (P := fun (n : Nat) k => P (n : Int) k) (List.range (N + 1)) (fun n hn => h n (by omega) (by have := List.mem_range.1 hn; omega))
  refine ⟨K, fun k hk a h0 h1 => ?_⟩
  obtain ⟨n, rfl⟩ := Int.eq_ofNat_of_zero_le h0
  exact hK k hk n (List.mem_range.2 (by omega))

mutual
def needVal : S54 → Int
  | ⟨_, _, s, l, ks⟩ => (s.size : Int) + ((l.length : Int) + needValS l) + szL ks
def needValS : List S54 → Int
  | [] => 0
  | x :: r => needVal x + needValS r
end
theorem needVal_eq (x : S54) : needVal x = (x.f2.size : Int) + ((x.f3.length : Int) + needValS x.f3) + szL x.f4 := by cases x; rw [needVal]
mutual
theorem needVal_nonneg : ∀ x : S54, 0 ≤ needVal x
  | ⟨_, _, s, l, ks⟩ => by
    have h1 := needValS_nonneg l
    have h2 := szL_nonneg ks
    rw [needVal]
    omega
theorem needValS_nonneg : ∀ l : List S54, 0 ≤ needValS l
  | [] => by rw [needValS]; omega
  | x :: r => by
    have h1 := needVal_nonneg x
    have h2 := needValS_nonneg r
    rw [needValS]
    omega
end
theorem needVal_mem : ∀ {l : List S54} {x : S54}, x ∈ l → needVal x ≤ needValS l
  | y :: r, x, h => by
    have h1 := needVal_nonneg y
    have h2 := needValS_nonneg r
    rw [needValS]
    rcases List.mem_cons.1 h with e | h
    · rw [e]; omega
    · have := needVal_mem h; omega

/-! Sizes. -/
theorem szValS_l [laws_szVal.Rec] (l : List S54) (hl : l.length ≤ 9223372036854775807)
    (hF : ∀ k, ∀ x ∈ l, ∀ a : Int, 0 ≤ a → a ≤ 1048576 → laws_szVal.Rec.f k x.f0 x.f1 x.f2 x.f3 x.f4 a = some (left (needVal x) a)) (d : Nat) : ∀ (i k : Nat) (a : Int), i + d = l.length → d < k → 0 ≤ a → a ≤ 1048576 →
    laws_szValS.l0 k l a (i : Int) = some (left (needValS (l.drop i)) a) := by
  induction d with
  | zero =>
    intro i k a hi hk h0 ha
    obtain ⟨k, rfl⟩ : ∃ m, k = m + 1 := ⟨k - 1, by omega⟩
    have h1 : ¬ (i : Int) < (l.length : Int) := by omega
    rw [List.drop_eq_nil_of_le (by omega), left_pos (by rw [needValS]; exact h0)]
    simp only [laws_szValS.l0, h1, if_false, needValS, Int.sub_zero]
  | succ d ih =>
    intro i k a hi hk h0 ha
    obtain ⟨k, rfl⟩ : ∃ m, k = m + 1 := ⟨k - 1, by omega⟩
    have hlt : i < l.length := by omega
    have h1 : (i : Int) < (l.length : Int) := by omega
    have h2 : (0 : Int) ≤ (i : Int) := by omega
    have h3 := next_i hlt hl
    have hn := needValS_nonneg (l.drop (i + 1))
    have hn0 := needVal_nonneg l[i]
    have hg : rd_T54 l (i : Int) = l[i] := rdD_cast _ hlt
    rw [drop_get hlt]
    simp only [laws_szValS.l0, h1, h2, h3, if_true, hg, needValS]
    rw [hF k l[i] (List.getElem_mem hlt) a h0 ha]
    simp only [Option.bind_some]
    by_cases h5 : needVal l[i] ≤ a
    · rw [left_pos h5]
      simp only [show ¬ a - needVal l[i] < 0 by omega, if_false]
      rw [ih (i + 1) k (a - needVal l[i]) (by omega) (by omega) (by omega) (by omega)]
      congr 1
      unfold left
      split <;> split <;> omega
    · rw [left_not h5, left_not (by omega)]
      rfl
theorem szValS_f [laws_szVal.Rec] (l : List S54) (hl : l.length ≤ maxLen)
    (hF : ∀ k, ∀ x ∈ l, ∀ a : Int, 0 ≤ a → a ≤ 1048576 → laws_szVal.Rec.f k x.f0 x.f1 x.f2 x.f3 x.f4 a = some (left (needVal x) a)) (k : Nat) (a : Int) (hk : l.length + 2 ≤ k) (h0 : 0 ≤ a) (ha : a ≤ 1048576) :
    laws_szValS.f k l a = some (left ((l.length : Int) + needValS l) a) := by
  unfold maxLen at hl
  unfold laws_szValS.f
  have hn := needValS_nonneg l
  rw [wrap64_id (by omega) (by omega)]
  by_cases h : a - (l.length : Int) < 0
  · simp only [h, if_true]
    rw [left_not (by omega)]
  · simp only [h, if_false]
    obtain ⟨k, rfl⟩ : ∃ m, k = m + 1 := ⟨k - 1, by omega⟩
    simp only [laws_szValS.j0]
    have hq := szValS_l l (by omega) hF l.length 0 k (a - (l.length : Int)) (by omega) (by omega) (by omega) (by omega)
    rw [List.drop_zero] at hq
    refine hq.trans ?_
    congr 1
    unfold left
    split <;> split <;> omega
theorem szVal (x : S54) (ho : ok54 x) : ∀ a : Int, 0 ≤ a → a ≤ 1048576 → Ev (fun k => laws_szVal.f k x.f0 x.f1 x.f2 x.f3 x.f4 a) (left (needVal x) a) := by
  induction ho with
  | mk x o0 o1 o2 o3 g3 o4 g4 ih =>
    intro a h0 ha
    obtain ⟨K, hK⟩ := all_mem x.f3 (P := fun y k => ∀ a : Int, 0 ≤ a → a ≤ ((1048576 : Nat) : Int) → laws_szVal.f k y.f0 y.f1 y.f2 y.f3 y.f4 a = some (left (needVal y) a)) (fun y hy => all_le 1048576 (fun a h0 h1 => ih y hy a h0 (by omega)))
    have hS : ∀ a : Int, 0 ≤ a → a ≤ 1048576 → Ev (fun k => @laws_szValS.f ⟨fun _ => laws_szVal.f k⟩ k x.f3 a) (left ((x.f3.length : Int) + needValS x.f3) a) := fun a h0 ha =>
      ⟨max K (x.f3.length + 2), fun k hk => @szValS_f ⟨fun _ => laws_szVal.f k⟩ x.f3 o3 (fun _ y hy a h0 ha => hK k (by omega) y hy a h0 (by omega)) k a (by omega) h0 ha⟩
    have hn3 := needValS_nonneg x.f3
    have hn4 := szL_nonneg x.f4
    unfold maxLen at o2 o4 g4
    rw [needVal_eq]
    refine Ev.succ ?_
    simp only [laws_szVal.f]
    rw [wrap64_id (by omega) (by omega)]
    by_cases h2 : a - (x.f2.size : Int) < 0
    · simp only [h2, if_true]
      rw [left_not (by omega)]
      exact Ev.some
    simp only [h2, if_false]
    refine Ev.succ ?_
    simp only [laws_szVal.j0]
    refine Ev.bind (hS (a - (x.f2.size : Int)) (by omega) (by omega)) ?_
    by_cases h3 : (x.f3.length : Int) + needValS x.f3 ≤ a - (x.f2.size : Int)
    · rw [left_pos h3]
      simp only [show ¬ a - (x.f2.size : Int) - ((x.f3.length : Int) + needValS x.f3) < 0 by omega, if_false]
      refine Ev.bind (szStringS x.f4 _ (by omega) (fun z hz => by have := g4 z hz; omega) (by omega) (by omega)) ?_
      by_cases h4 : szL x.f4 ≤ a - (x.f2.size : Int) - ((x.f3.length : Int) + needValS x.f3)
      · rw [left_pos h4]
        simp only [show ¬ a - (x.f2.size : Int) - ((x.f3.length : Int) + needValS x.f3) - szL x.f4 < 0 by omega, if_false]
        refine Ev.cast Ev.some ?_
        rw [left_pos (by omega)]
        omega
      · rw [left_not h4]
        exact Ev.cast Ev.some (left_not (by omega)).symm
    · rw [left_not h3]
      exact Ev.cast Ev.some (left_not (by omega)).symm

/-! Copies. -/
mutual
def convVal : S54 → S59
  | ⟨a, b, s, l, ks⟩ => ⟨a, b, s, convValS l, ks⟩
def convValS : List S54 → List S59
  | [] => []
  | x :: r => convVal x :: convValS r
end
theorem convValS_map : ∀ l : List S54, convValS l = l.map convVal
  | [] => by rw [convValS]; rfl
  | x :: r => by rw [convValS, convValS_map r]; rfl
theorem convVal_eq (x : S54) : convVal x = ⟨x.f0, x.f1, x.f2, x.f3.map convVal, x.f4⟩ := by
  cases x
  rw [convVal, convValS_map]
/-- A value's fields in a row. -/
def valT (y : S59) : Int × Int × ByteArray × List S59 × List ByteArray := (y.f0, y.f1, y.f2, y.f3, y.f4)
theorem toValS_l [laws_toVal.Rec] (l : List S54) (hl : l.length ≤ 9223372036854775807)
    (hF : ∀ k, ∀ x ∈ l, laws_toVal.Rec.f k x.f0 x.f1 x.f2 x.f3 x.f4 = some (valT (convVal x))) (d : Nat) : ∀ (i k : Nat) (y : List S59), i + d = l.length → d < k → y.length = l.length → y.take i = (l.map convVal).take i →
    laws_toValS.l0 k l y (i : Int) = some (l.map convVal) := by
  induction d with
  | zero =>
    intro i k y hi hk hy he
    obtain ⟨k, rfl⟩ : ∃ m, k = m + 1 := ⟨k - 1, by omega⟩
    have h1 : ¬ (i : Int) < (l.length : Int) := by omega
    have e : y = l.map convVal := by rwa [List.take_of_length_le (by omega), List.take_of_length_le (by simp; omega)] at he
    simp only [laws_toValS.l0, h1, if_false, e]
  | succ d ih =>
    intro i k y hi hk hy he
    obtain ⟨k, rfl⟩ : ∃ m, k = m + 1 := ⟨k - 1, by omega⟩
    have hlt : i < l.length := by omega
    have h1 : (i : Int) < (l.length : Int) := by omega
    have h1y : (i : Int) < (y.length : Int) := by omega
    have h2 : (0 : Int) ≤ (i : Int) := by omega
    have h3 := next_i hlt hl
    have hg : rd_T54 l (i : Int) = l[i] := rdD_cast _ hlt
    have hm : i < (l.map convVal).length := by simpa using hlt
    simp only [laws_toValS.l0, h1, h2, h3, if_true, hg]
    rw [hF k l[i] (List.getElem_mem hlt)]
    simp only [Option.bind_some, h1y, if_true, Int.toNat_natCast, valT]
    refine ih (i + 1) k _ (by omega) (by omega) (by simpa using hy) ?_
    have := take_set_step (l := y) (m := l.map convVal) (by omega) hm he
    rw [show (l.map convVal)[i] = convVal l[i] by simp] at this
    rw [show (⟨(convVal l[i]).f0, (convVal l[i]).f1, (convVal l[i]).f2, (convVal l[i]).f3, (convVal l[i]).f4⟩ : S59) = convVal l[i] by cases convVal l[i]; rfl]
    exact this
theorem toVal (x : S54) (ho : ok54 x) : needVal x ≤ 1048576 → Ev (fun k => laws_toVal.f k x.f0 x.f1 x.f2 x.f3 x.f4) (valT (convVal x)) := by
  induction ho with
  | mk x o0 o1 o2 o3 g3 o4 g4 ih =>
    intro hn
    rw [needVal_eq] at hn
    have hn3 := needValS_nonneg x.f3
    have hn4 := szL_nonneg x.f4
    have hn4' : (x.f4.length : Int) ≤ szL x.f4 := by unfold szL; have := szT_nonneg x.f4; omega
    obtain ⟨K, hK⟩ := all_mem x.f3 (P := fun y k => laws_toVal.f k y.f0 y.f1 y.f2 y.f3 y.f4 = some (valT (convVal y))) (fun y hy => ih y hy (by have := needVal_mem hy; omega))
    have hS : Ev (fun k => @laws_toValS.f ⟨fun _ => laws_toVal.f k⟩ k x.f3) (x.f3.map convVal) :=
      ⟨max K (x.f3.length + 1), fun k hk => by
        show @laws_toValS.f ⟨fun _ => laws_toVal.f k⟩ k x.f3 = _
        unfold laws_toValS.f
        rw [if_pos (by omega), if_pos (by omega)]
        exact @toValS_l ⟨fun _ => laws_toVal.f k⟩ x.f3 (by omega) (fun _ y hy => hK k (by omega) y hy) x.f3.length 0 k _ (by omega) (by omega) (by simp) (by simp)⟩
    refine Ev.succ ?_
    simp only [laws_toVal.f]
    refine Ev.bind hS (Ev.bind (toStringS x.f4 (by omega)) ?_)
    rw [convVal_eq]
    exact Ev.some

/-! Comparisons. -/
/-- Its slices are no longer than a number of Go's tells. -/
inductive fitVal : S59 → Prop
  | mk (y : S59) (h3 : y.f3.length ≤ 9223372036854775807) (g3 : ∀ z ∈ y.f3, fitVal z) (h4 : y.f4.length ≤ 9223372036854775807) (g4 : ∀ z ∈ y.f4, z.size ≤ 9223372036854775807) (h2 : y.f2.size ≤ 9223372036854775807) : fitVal y
theorem fit_convVal (x : S54) (ho : ok54 x) : fitVal (convVal x) := by
  induction ho with
  | mk x o0 o1 o2 o3 g3 o4 g4 ih =>
    unfold maxLen at o2 o3 o4 g4
    rw [convVal_eq]
    refine fitVal.mk _ (by simp only [List.length_map]; omega) (fun z hz => ?_) (by show x.f4.length ≤ _; omega) (fun z hz => by have := g4 z hz; omega) (by show x.f2.size ≤ _; omega)
    obtain ⟨y, hy, rfl⟩ := List.mem_map.1 hz
    exact ih y hy
theorem eqValS_l [laws_eqVal.Rec] (l : List S59) (hl : l.length ≤ 9223372036854775807)
    (hF : ∀ k, ∀ x ∈ l, laws_eqVal.Rec.f k x.f0 x.f1 x.f2 x.f3 x.f4 x.f0 x.f1 x.f2 x.f3 x.f4 = some true) (d : Nat) : ∀ (i k : Nat), i + d = l.length → d < k →
    laws_eqValS.l0 k l l (i : Int) = some true := by
  induction d with
  | zero =>
    intro i k hi hk
    obtain ⟨k, rfl⟩ : ∃ m, k = m + 1 := ⟨k - 1, by omega⟩
    have h1 : ¬ (i : Int) < (l.length : Int) := by omega
    simp only [laws_eqValS.l0, h1, if_false]
  | succ d ih =>
    intro i k hi hk
    obtain ⟨k, rfl⟩ : ∃ m, k = m + 1 := ⟨k - 1, by omega⟩
    have hlt : i < l.length := by omega
    have h1 : (i : Int) < (l.length : Int) := by omega
    have h2 : (0 : Int) ≤ (i : Int) := by omega
    have h3 := next_i hlt hl
    have hg : rd_T59 l (i : Int) = l[i] := rdD_cast _ hlt
    simp only [laws_eqValS.l0, h1, h2, h3, if_true, hg]
    rw [hF k l[i] (List.getElem_mem hlt)]
    simp only [Option.bind_some, if_true]
    exact ih (i + 1) k (by omega) (by omega)
theorem eqVal (y : S59) (hf : fitVal y) : Ev (fun k => laws_eqVal.f k y.f0 y.f1 y.f2 y.f3 y.f4 y.f0 y.f1 y.f2 y.f3 y.f4) true := by
  induction hf with
  | mk y o3 g3 o4 g4 o2 ih =>
    obtain ⟨K, hK⟩ := all_mem y.f3 (P := fun y k => laws_eqVal.f k y.f0 y.f1 y.f2 y.f3 y.f4 y.f0 y.f1 y.f2 y.f3 y.f4 = some true) (fun z hz => by obtain ⟨K, h⟩ := ih z hz; exact ⟨K, h⟩)
    have hS : Ev (fun k => @laws_eqValS.f ⟨fun _ => laws_eqVal.f k⟩ k y.f3 y.f3) true :=
      ⟨max K (y.f3.length + 2), fun k hk => by
        show @laws_eqValS.f ⟨fun _ => laws_eqVal.f k⟩ k y.f3 y.f3 = _
        unfold laws_eqValS.f
        rw [if_pos rfl]
        obtain ⟨m, rfl⟩ : ∃ m, k = m + 1 := ⟨k - 1, by omega⟩
        simp only [laws_eqValS.j0]
        exact @eqValS_l ⟨fun _ => laws_eqVal.f (m + 1)⟩ y.f3 o3 (fun _ z hz => hK (m + 1) (by omega) z hz) y.f3.length 0 m (by omega) (by omega)⟩
    refine Ev.succ ?_
    simp only [laws_eqVal.f, if_true]
    refine Ev.succ ?_
    simp only [laws_eqVal.j0, if_true]
    refine Ev.succ ?_
    simp only [laws_eqVal.j1, if_true]
    refine Ev.succ ?_
    simp only [laws_eqVal.j2]
    refine Ev.bind hS ?_
    simp only [if_true]
    refine Ev.bind (eqStringS y.f4 y.f4 o4) ?_
    simp only [decide_true, if_true]
    exact Ev.some
end Go.Proofs.Ytfbbagddhfeefaa.Pure
