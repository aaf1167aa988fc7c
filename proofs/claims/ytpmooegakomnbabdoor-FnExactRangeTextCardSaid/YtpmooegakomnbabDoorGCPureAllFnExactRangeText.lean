/- What the functions come to that the law FnExactRangeText reaches: the parts, one behind the other. -/
import Derived.Test.YtpmooegakomnbabDoorAux
import Derived.Test.YtpmooegakomnbabDoorPGCx0
import Derived.Test.YtpmooegakomnbabDoorPGCx1
import Derived.Test.YtpmooegakomnbabDoorPGCx5
import Derived.Test.YtpmooegakomnbabDoorPGCx7
import Derived.Test.YtpmooegakomnbabDoorOGC
import Derived.Test.YtpmooegakomnbabDoorPGCx8
import Derived.Test.YtpmooegakomnbabDoorPGCx2
import Derived.Test.YtpmooegakomnbabDoorPGCx6
import Derived.Lib.SplitLaws
import Derived.Lib.ItoaNum
import Derived.Lib.Join
import Derived.Test.YtpmooegakomnbabDoorPGCx3
import Derived.Lib.CutLaws
import Derived.Test.YtpmooegakomnbabDoorPGCx4
set_option linter.unusedVariables false
set_option linter.unusedSimpArgs false
/- What the laws' helpers over slices of strings come to: their sizes, copies and comparisons. -/
namespace Go.Proofs.YtpmooegakomnbabDoor.Pure
open Go.RowKit Go.Proofs.YtpmooegakomnbabDoor.PGC Go.Proofs.YtpmooegakomnbabDoorW.PrintWords Go.Proofs.YtpmooegakomnbabDoorW.PrintLast Go.Proofs.YtpmooegakomnbabDoor.Aux

theorem szStringS_l (l : List ByteArray) (hl : l.length ≤ 9223372036854775807) (hs : ∀ x ∈ l, x.size ≤ 9223372036854775807) (d : Nat) : ∀ (i : Nat) (a : Int), i + d = l.length → 0 ≤ a → a ≤ 9223372036854775807 →
    Ev (fun k => laws_szStringS.l0 k l a (i : Int)) (left (szT (l.drop i)) a) := by
  induction d with
  | zero =>
    intro i a hi h0 ha
    have h1 : ¬ (i : Int) < (l.length : Int) := by omega
    refine Ev.succ ?_
    rw [List.drop_eq_nil_of_le (by omega), left_pos (by simpa [szT] using h0)]
    simp only [laws_szStringS.l0, h1, if_false, szT, Int.sub_zero]
    exact Ev.some
  | succ d ih =>
    intro i a hi h0 ha
    have hlt : i < l.length := by omega
    have h1 : (i : Int) < (l.length : Int) := by omega
    have h2 : (0 : Int) ≤ (i : Int) := by omega
    have h3 := next_i hlt hl
    have hx := hs _ (List.getElem_mem hlt)
    have h4 : wrap64 (a - (l[i].size : Int)) = a - (l[i].size : Int) := wrap64_id (by omega) (by omega)
    have hn := szT_nonneg (l.drop (i + 1))
    refine Ev.succ ?_
    rw [drop_get hlt]
    simp only [laws_szStringS.l0, h1, h2, h3, if_true, rdOf_cast _ hlt, h4, szT]
    by_cases h5 : a - (l[i].size : Int) < 0
    · simp only [h5, if_true]
      rw [left_not (by omega)]
      exact Ev.some
    · simp only [h5, if_false]
      refine Ev.cast (ih (i + 1) (a - (l[i].size : Int)) (by omega) (by omega) (by omega)) ?_
      unfold left
      split <;> split <;> omega

theorem szStringS (l : List ByteArray) (a : Int) (hl : l.length ≤ 9223372036854775807) (hs : ∀ x ∈ l, x.size ≤ 9223372036854775807) (h0 : 0 ≤ a) (ha : a ≤ 9223372036854775807) : Ev (fun k => laws_szStringS.f k l a) (left (szL l) a) := by
  unfold laws_szStringS.f
  have hn := szT_nonneg l
  rw [wrap64_id (by omega) (by omega)]
  by_cases h : a - (l.length : Int) < 0
  · simp only [h, if_true]
    rw [left_not (by unfold szL; omega)]
    exact Ev.some
  · simp only [h, if_false]
    refine Ev.succ ?_
    simp only [laws_szStringS.j0]
    refine Ev.cast (szStringS_l l hl hs l.length 0 (a - (l.length : Int)) (by omega) (by omega) (by omega)) ?_
    unfold left szL
    rw [List.drop_zero]
    split <;> split <;> omega
theorem toStringS_l (l : List ByteArray) (hl : l.length ≤ 9223372036854775807) (d : Nat) : ∀ (i : Nat) (x : List ByteArray), i + d = l.length → x.length = l.length → x.take i = l.take i →
    Ev (fun k => laws_toStringS.l0 k l x (i : Int)) l := by
  induction d with
  | zero =>
    intro i x hi hx he
    have h1 : ¬ (i : Int) < (l.length : Int) := by omega
    have e : x = l := by rwa [List.take_of_length_le (by omega), List.take_of_length_le (by omega)] at he
    refine Ev.succ ?_
    simp only [laws_toStringS.l0, h1, if_false, e]
    exact Ev.some
  | succ d ih =>
    intro i x hi hx he
    have hlt : i < l.length := by omega
    have h1 : (i : Int) < (l.length : Int) := by omega
    have h1x : (i : Int) < (x.length : Int) := by omega
    have h2 : (0 : Int) ≤ (i : Int) := by omega
    have h3 := next_i hlt hl
    refine Ev.succ ?_
    simp only [laws_toStringS.l0, h1, h1x, h2, h3, if_true, Int.toNat_natCast, rdOf_cast _ hlt]
    exact ih (i + 1) _ (by omega) (by simpa using hx) (take_set_step (by omega) hlt he)

theorem toStringS (l : List ByteArray) (hl : l.length ≤ 17592186044416) : Ev (fun k => laws_toStringS.f k l) l := by
  unfold laws_toStringS.f
  simp only [show (0 : Int) ≤ (l.length : Int) by omega, show (l.length : Int).toNat ≤ 17592186044416 by omega, if_true]
  exact toStringS_l l (by omega) l.length 0 _ (by omega) (by simp) (by simp)
theorem eqStringS_l (a b : List ByteArray) (hl : a.length ≤ 9223372036854775807) (hab : a.length = b.length) (d : Nat) : ∀ i : Nat, i + d = a.length →
    Ev (fun k => laws_eqStringS.l0 k a b (i : Int)) (decide (a.drop i = b.drop i)) := by
  induction d with
  | zero =>
    intro i hi
    have h1 : ¬ (i : Int) < (a.length : Int) := by omega
    refine Ev.succ ?_
    rw [List.drop_eq_nil_of_le (by omega), List.drop_eq_nil_of_le (by omega)]
    simp only [laws_eqStringS.l0, h1, if_false, decide_true]
    exact Ev.some
  | succ d ih =>
    intro i hi
    have hlt : i < a.length := by omega
    have hlb : i < b.length := by omega
    have h1 : (i : Int) < (a.length : Int) := by omega
    have h1b : (i : Int) < (b.length : Int) := by omega
    have h2 : (0 : Int) ≤ (i : Int) := by omega
    have h3 := next_i hlt hl
    refine Ev.succ ?_
    rw [drop_get hlt, drop_get hlb]
    simp only [laws_eqStringS.l0, h1, h1b, h2, h3, if_true, rdOf_cast _ hlt, rdOf_cast _ hlb, toList_inj]
    by_cases h : a[i] = b[i]
    · simp only [h, if_true, List.cons.injEq, true_and]
      exact ih (i + 1) (by omega)
    · simp only [h, if_false, List.cons.injEq, false_and, decide_false]
      exact Ev.some

theorem eqStringS (a b : List ByteArray) (hl : a.length ≤ 9223372036854775807) : Ev (fun k => laws_eqStringS.f k a b) (decide (a = b)) := by
  unfold laws_eqStringS.f
  by_cases h : (a.length : Int) = (b.length : Int)
  · simp only [h, if_true]
    refine Ev.succ ?_
    simp only [laws_eqStringS.j0]
    exact eqStringS_l a b hl (by omega) a.length 0 (by omega)
  · simp only [h, if_false]
    have : ¬ a = b := fun e => h (by rw [e])
    simp only [this, decide_false]
    exact Ev.some
end Go.Proofs.YtpmooegakomnbabDoor.Pure
/- What the laws' helpers over values of the type Ver come to. -/
namespace Go.Proofs.YtpmooegakomnbabDoor.Pure
open Go.RowKit Go.Proofs.YtpmooegakomnbabDoor.PGC Go.Proofs.YtpmooegakomnbabDoorW.PrintWords Go.Proofs.YtpmooegakomnbabDoorW.PrintLast Go.Proofs.YtpmooegakomnbabDoor.Aux

def needVer (x : S27) : Int := szL x.f3
theorem needVer_nonneg (x : S27) : 0 ≤ needVer x := by
  have n3 := szL_nonneg x.f3
  unfold needVer; omega
def needVerS : List S27 → Int
  | [] => 0
  | x :: r => needVer x + needVerS r
theorem needVerS_nonneg : ∀ l : List S27, 0 ≤ needVerS l
  | [] => by simp [needVerS]
  | x :: r => by have := needVer_nonneg x; have := needVerS_nonneg r; simp only [needVerS]; omega
theorem needVer_mem : ∀ {l : List S27} {x : S27}, x ∈ l → needVer x ≤ needVerS l
  | y :: r, x, h => by
    have h1 := needVer_nonneg y
    have h2 := needVerS_nonneg r
    simp only [needVerS]
    rcases List.mem_cons.1 h with e | h
    · rw [e]; omega
    · have := needVer_mem h; omega
theorem szVer (x : S27) (a : Int) (ho : ok27 x) (h0 : 0 ≤ a) (ha : a ≤ 9223372036854775807) : Ev (fun k => laws_szVer.f k x.f0 x.f1 x.f2 x.f3 a) (left (needVer x) a) := by
  obtain ⟨o0, o1, o2, o3⟩ := ho
  unfold laws_szVer.f needVer
  have n3 := szL_nonneg x.f3
  skip
  refine Ev.bind (szStringS x.f3 a (by have := o3.1; unfold maxLen at this; omega) (fun z hz => by have := o3.2 z hz; unfold maxLen at this; omega) (by omega) (by omega)) ?_
  by_cases h3 : szL x.f3 ≤ a
  case neg => rw [left_not h3]; first | exact Ev.some | exact Ev.cast Ev.some (left_not (by omega)).symm
  rw [left_pos h3]
  simp only [show ¬ a - szL x.f3 < 0 by omega, if_false]
  skip
  refine Ev.cast Ev.some ?_
  first | rfl | (rw [left_pos (by omega)]; omega)
def convVer (x : S27) : S30 := ⟨x.f0, x.f1, x.f2, x.f3⟩
theorem toVer (x : S27) (hn : needVer x ≤ 1048576) : Ev (fun k => laws_toVer.f k x.f0 x.f1 x.f2 x.f3) ((convVer x).f0, (convVer x).f1, (convVer x).f2, (convVer x).f3) := by
  unfold needVer at hn
  have n3 := szL_nonneg x.f3
  unfold laws_toVer.f
  skip
  refine Ev.bind (toStringS x.f3 (by have := szT_nonneg x.f3; unfold szL at *; omega)) ?_
  skip
  exact Ev.some
/-- Its slices are no longer than a number of Go's tells. -/
def fitVer (y : S30) : Prop := y.f3.length ≤ 9223372036854775807
theorem fit_convVer (x : S27) (hn : needVer x ≤ 1048576) : fitVer (convVer x) := by
  unfold needVer at hn
  have n3 := szL_nonneg x.f3
  exact (show x.f3.length ≤ 9223372036854775807 from by have := szT_nonneg x.f3; unfold szL at *; omega)
theorem eqVer (y : S30) (hf : fitVer y) : Ev (fun k => laws_eqVer.f k y.f0 y.f1 y.f2 y.f3 y.f0 y.f1 y.f2 y.f3) true := by
  unfold laws_eqVer.f
  have m3 := hf
  first | (refine Ev.succ (g := fun k => laws_eqVer.j0 k _ _ _ _ _ _ _ _) ?_; simp only [laws_eqVer.j0]) | (refine Ev.succ (g := fun k => laws_eqVer.j1 k _ _ _ _ _ _ _ _) ?_; simp only [laws_eqVer.j1]) | skip
  first | simp only [if_true] | skip
  first | (refine Ev.succ (g := fun k => laws_eqVer.j0 k _ _ _ _ _ _ _ _) ?_; simp only [laws_eqVer.j0]) | (refine Ev.succ (g := fun k => laws_eqVer.j1 k _ _ _ _ _ _ _ _) ?_; simp only [laws_eqVer.j1]) | skip
  first | simp only [if_true] | skip
  first | (refine Ev.succ (g := fun k => laws_eqVer.j0 k _ _ _ _ _ _ _ _) ?_; simp only [laws_eqVer.j0]) | (refine Ev.succ (g := fun k => laws_eqVer.j1 k _ _ _ _ _ _ _ _) ?_; simp only [laws_eqVer.j1]) | skip
  first | simp only [if_true] | skip
  first | (refine Ev.succ (g := fun k => laws_eqVer.j0 k _ _ _ _ _ _ _ _) ?_; simp only [laws_eqVer.j0]) | (refine Ev.succ (g := fun k => laws_eqVer.j1 k _ _ _ _ _ _ _ _) ?_; simp only [laws_eqVer.j1]) | skip
  refine Ev.bind (eqStringS y.f3 y.f3 m3) ?_
  simp only [decide_true, if_true]
  first | (refine Ev.succ (g := fun k => laws_eqVer.j0 k _ _ _ _ _ _ _ _) ?_; simp only [laws_eqVer.j0]) | (refine Ev.succ (g := fun k => laws_eqVer.j1 k _ _ _ _ _ _ _ _) ?_; simp only [laws_eqVer.j1]) | skip
  first | simp only [if_true] | skip
  exact Ev.some
end Go.Proofs.YtpmooegakomnbabDoor.Pure
/- What the laws' helpers over values of the type Cmp come to. -/
namespace Go.Proofs.YtpmooegakomnbabDoor.Pure
open Go.RowKit Go.Proofs.YtpmooegakomnbabDoor.PGC Go.Proofs.YtpmooegakomnbabDoorW.PrintWords Go.Proofs.YtpmooegakomnbabDoorW.PrintLast Go.Proofs.YtpmooegakomnbabDoor.Aux

def needCmp (x : S93) : Int := needVer x.f1
theorem needCmp_nonneg (x : S93) : 0 ≤ needCmp x := by
  have n1 := needVer_nonneg x.f1
  unfold needCmp; omega
def needCmpS : List S93 → Int
  | [] => 0
  | x :: r => needCmp x + needCmpS r
theorem needCmpS_nonneg : ∀ l : List S93, 0 ≤ needCmpS l
  | [] => by simp [needCmpS]
  | x :: r => by have := needCmp_nonneg x; have := needCmpS_nonneg r; simp only [needCmpS]; omega
theorem needCmp_mem : ∀ {l : List S93} {x : S93}, x ∈ l → needCmp x ≤ needCmpS l
  | y :: r, x, h => by
    have h1 := needCmp_nonneg y
    have h2 := needCmpS_nonneg r
    simp only [needCmpS]
    rcases List.mem_cons.1 h with e | h
    · rw [e]; omega
    · have := needCmp_mem h; omega
theorem szCmp (x : S93) (a : Int) (ho : ok93 x) (h0 : 0 ≤ a) (ha : a ≤ 9223372036854775807) : Ev (fun k => laws_szCmp.f k x.f0 x.f1.f0 x.f1.f1 x.f1.f2 x.f1.f3 a) (left (needCmp x) a) := by
  obtain ⟨o0, o1⟩ := ho
  unfold laws_szCmp.f needCmp
  have n1 := needVer_nonneg x.f1
  skip
  refine Ev.bind (szVer x.f1 a o1 (by omega) (by omega)) ?_
  by_cases h1 : needVer x.f1 ≤ a
  case neg => rw [left_not h1]; first | exact Ev.some | exact Ev.cast Ev.some (left_not (by omega)).symm
  rw [left_pos h1]
  simp only [show ¬ a - needVer x.f1 < 0 by omega, if_false]
  skip
  refine Ev.cast Ev.some ?_
  first | rfl | (rw [left_pos (by omega)]; omega)
theorem szCmpS_l (l : List S93) (hl : l.length ≤ 9223372036854775807) (ho : ∀ x ∈ l, ok93 x) (d : Nat) : ∀ (i : Nat) (a : Int), i + d = l.length → 0 ≤ a → a ≤ 9223372036854775807 →
    Ev (fun k => laws_szCmpS.l0 k l a (i : Int)) (left (needCmpS (l.drop i)) a) := by
  induction d with
  | zero =>
    intro i a hi h0 ha
    have h1 : ¬ (i : Int) < (l.length : Int) := by omega
    refine Ev.succ ?_
    rw [List.drop_eq_nil_of_le (by omega), left_pos (by simpa [needCmpS] using h0)]
    simp only [laws_szCmpS.l0, h1, if_false, needCmpS, Int.sub_zero]
    exact Ev.some
  | succ d ih =>
    intro i a hi h0 ha
    have hlt : i < l.length := by omega
    have h1 : (i : Int) < (l.length : Int) := by omega
    have h2 : (0 : Int) ≤ (i : Int) := by omega
    have h3 := next_i hlt hl
    have hn := needCmpS_nonneg (l.drop (i + 1))
    have hn0 := needCmp_nonneg l[i]
    have hg : rd_T93 l (i : Int) = l[i] := rdD_cast _ hlt
    refine Ev.succ ?_
    rw [drop_get hlt]
    simp only [laws_szCmpS.l0, h1, h2, h3, if_true, hg, needCmpS]
    refine Ev.bind (szCmp l[i] a (ho _ (List.getElem_mem hlt)) h0 ha) ?_
    by_cases h5 : needCmp l[i] ≤ a
    · rw [left_pos h5]
      simp only [show ¬ a - needCmp l[i] < 0 by omega, if_false]
      refine Ev.cast (ih (i + 1) (a - needCmp l[i]) (by omega) (by omega) (by omega)) ?_
      unfold left
      split <;> split <;> omega
    · rw [left_not h5]
      exact Ev.cast Ev.some (left_not (by omega)).symm
theorem szCmpS (l : List S93) (a : Int) (ho : l.length ≤ maxLen ∧ ∀ x ∈ l, ok93 x) (h0 : 0 ≤ a) (ha : a ≤ 9223372036854775807) : Ev (fun k => laws_szCmpS.f k l a) (left ((l.length : Int) + needCmpS l) a) := by
  obtain ⟨hl, ho⟩ := ho
  unfold maxLen at hl
  unfold laws_szCmpS.f
  have hn := needCmpS_nonneg l
  rw [wrap64_id (by omega) (by omega)]
  by_cases h : a - (l.length : Int) < 0
  · simp only [h, if_true]
    rw [left_not (by omega)]
    exact Ev.some
  · simp only [h, if_false]
    refine Ev.succ ?_
    simp only [laws_szCmpS.j0]
    refine Ev.cast (szCmpS_l l (by omega) ho l.length 0 (a - (l.length : Int)) (by omega) (by omega) (by omega)) ?_
    rw [List.drop_zero]
    unfold left
    split <;> split <;> omega
def convCmp (x : S93) : S68 := ⟨x.f0, convVer x.f1⟩
theorem toCmp (x : S93) (hn : needCmp x ≤ 1048576) : Ev (fun k => laws_toCmp.f k x.f0 x.f1.f0 x.f1.f1 x.f1.f2 x.f1.f3) ((convCmp x).f0, (convCmp x).f1.f0, (convCmp x).f1.f1, (convCmp x).f1.f2, (convCmp x).f1.f3) := by
  unfold needCmp at hn
  have n1 := needVer_nonneg x.f1
  unfold laws_toCmp.f
  skip
  refine Ev.bind (toVer x.f1 (by omega)) ?_
  skip
  exact Ev.some
theorem toCmpS_l (l : List S93) (hl : l.length ≤ 9223372036854775807) (hn : ∀ x ∈ l, needCmp x ≤ 1048576) (d : Nat) : ∀ (i : Nat) (x : List S68), i + d = l.length → x.length = l.length → x.take i = (l.map convCmp).take i →
    Ev (fun k => laws_toCmpS.l0 k l x (i : Int)) (l.map convCmp) := by
  induction d with
  | zero =>
    intro i x hi hx he
    have h1 : ¬ (i : Int) < (l.length : Int) := by omega
    have e : x = l.map convCmp := by rwa [List.take_of_length_le (by omega), List.take_of_length_le (by simp; omega)] at he
    refine Ev.succ ?_
    simp only [laws_toCmpS.l0, h1, if_false, e]
    exact Ev.some
  | succ d ih =>
    intro i x hi hx he
    have hlt : i < l.length := by omega
    have h1 : (i : Int) < (l.length : Int) := by omega
    have h1x : (i : Int) < (x.length : Int) := by omega
    have h2 : (0 : Int) ≤ (i : Int) := by omega
    have h3 := next_i hlt hl
    have hg : rd_T93 l (i : Int) = l[i] := rdD_cast _ hlt
    have hm : i < (l.map convCmp).length := by simpa using hlt
    have hv : (l.map convCmp)[i] = convCmp l[i] := by simp
    refine Ev.succ ?_
    simp only [laws_toCmpS.l0, h1, h2, h3, if_true, hg]
    refine Ev.bind (toCmp l[i] (hn _ (List.getElem_mem hlt))) ?_
    simp only [h1x, if_true, Int.toNat_natCast]
    refine ih (i + 1) _ (by omega) (by simpa using hx) ?_
    have := take_set_step (l := x) (m := l.map convCmp) (by omega) hm he
    rw [hv] at this
    exact this
theorem toCmpS (l : List S93) (hn : (l.length : Int) + needCmpS l ≤ 1048576) : Ev (fun k => laws_toCmpS.f k l) (l.map convCmp) := by
  have h0 := needCmpS_nonneg l
  unfold laws_toCmpS.f
  simp only [show (0 : Int) ≤ (l.length : Int) by omega, if_true]
  refine Ev.cond (fun _ => ?_) (fun hq => absurd (by omega) hq)
  exact toCmpS_l l (by omega) (fun x hx => by have := needCmp_mem hx; omega) l.length 0 _ (by omega) (by simp) (by simp)
/-- Its slices are no longer than a number of Go's tells. -/
def fitCmp (y : S68) : Prop := fitVer y.f1
theorem fit_convCmp (x : S93) (hn : needCmp x ≤ 1048576) : fitCmp (convCmp x) := by
  unfold needCmp at hn
  have n1 := needVer_nonneg x.f1
  exact (fit_convVer _ (by omega))
theorem eqCmp (y : S68) (hf : fitCmp y) : Ev (fun k => laws_eqCmp.f k y.f0 y.f1.f0 y.f1.f1 y.f1.f2 y.f1.f3 y.f0 y.f1.f0 y.f1.f1 y.f1.f2 y.f1.f3) true := by
  unfold laws_eqCmp.f
  have m1 := hf
  skip
  first | simp only [if_true] | skip
  skip
  refine Ev.bind (eqVer y.f1 m1) ?_
  simp only [if_true]
  skip
  first | simp only [if_true] | skip
  exact Ev.some
theorem eqCmpS_l (l : List S68) (hl : l.length ≤ 9223372036854775807) (hf : ∀ z ∈ l, fitCmp z) (d : Nat) : ∀ i : Nat, i + d = l.length → Ev (fun k => laws_eqCmpS.l0 k l l (i : Int)) true := by
  induction d with
  | zero =>
    intro i hi
    have h1 : ¬ (i : Int) < (l.length : Int) := by omega
    refine Ev.succ ?_
    simp only [laws_eqCmpS.l0, h1, if_false]
    exact Ev.some
  | succ d ih =>
    intro i hi
    have hlt : i < l.length := by omega
    have h1 : (i : Int) < (l.length : Int) := by omega
    have h2 : (0 : Int) ≤ (i : Int) := by omega
    have h3 := next_i hlt hl
    have hg : rd_T68 l (i : Int) = l[i] := rdD_cast _ hlt
    refine Ev.succ ?_
    simp only [laws_eqCmpS.l0, h1, h2, h3, if_true, hg]
    first | (refine Ev.succ (g := fun k => laws_eqCmpS.j0 k _ _) ?_; simp only [laws_eqCmpS.j0]) | skip
    first | simp only [h1, h2, h3, if_true, hg] | skip
    refine Ev.bind (eqCmp l[i] (hf _ (List.getElem_mem hlt))) ?_
    simp only [if_true]
    exact ih (i + 1) (by omega)
theorem eqCmpS (l : List S68) (hf : l.length ≤ 9223372036854775807 ∧ ∀ z ∈ l, fitCmp z) : Ev (fun k => laws_eqCmpS.f k l l) true := by
  unfold laws_eqCmpS.f
  simp only [if_true]
  refine Ev.succ ?_
  simp only [laws_eqCmpS.j0]
  exact eqCmpS_l l hf.1 hf.2 l.length 0 (by omega)
theorem fit_convCmpS (l : List S93) (hn : (l.length : Int) + needCmpS l ≤ 1048576) : (l.map convCmp).length ≤ 9223372036854775807 ∧ ∀ z ∈ l.map convCmp, fitCmp z := by
  have h0 := needCmpS_nonneg l
  refine ⟨by simp only [List.length_map]; omega, fun z hz => ?_⟩
  obtain ⟨u, hu, rfl⟩ := List.mem_map.1 hz
  exact fit_convCmp u (by have := needCmp_mem hu; omega)
end Go.Proofs.YtpmooegakomnbabDoor.Pure
/- What the laws' helpers over lists of lists of Cmps come to. -/
namespace Go.Proofs.YtpmooegakomnbabDoor.Pure
open Go.RowKit Go.Proofs.YtpmooegakomnbabDoor.PGC Go.Proofs.YtpmooegakomnbabDoorW.PrintWords Go.Proofs.YtpmooegakomnbabDoorW.PrintLast Go.Proofs.YtpmooegakomnbabDoor.Aux

def needCmpSS : List (List S93) → Int
  | [] => 0
  | x :: r => ((x.length : Int) + needCmpS x) + needCmpSS r
theorem needCmpSS_nonneg : ∀ l : List (List S93), 0 ≤ needCmpSS l
  | [] => by simp [needCmpSS]
  | x :: r => by have := needCmpS_nonneg x; have := needCmpSS_nonneg r; simp only [needCmpSS]; omega
theorem needCmpSS_mem : ∀ {l : List (List S93)} {x : List S93}, x ∈ l → (x.length : Int) + needCmpS x ≤ needCmpSS l
  | y :: r, x, h => by
    have h1 := needCmpS_nonneg y
    have h2 := needCmpSS_nonneg r
    simp only [needCmpSS]
    rcases List.mem_cons.1 h with e | h
    · rw [e]; omega
    · have := needCmpSS_mem h; omega
theorem szCmpSS_l (l : List (List S93)) (hl : l.length ≤ 9223372036854775807) (ho : ∀ y ∈ l, (y.length ≤ maxLen ∧ ∀ x ∈ y, ok93 x)) (d : Nat) : ∀ (i : Nat) (a : Int), i + d = l.length → 0 ≤ a → a ≤ 9223372036854775807 →
    Ev (fun k => laws_szCmpSS.l0 k l a (i : Int)) (left (needCmpSS (l.drop i)) a) := by
  induction d with
  | zero =>
    intro i a hi h0 ha
    have h1 : ¬ (i : Int) < (l.length : Int) := by omega
    refine Ev.succ ?_
    rw [List.drop_eq_nil_of_le (by omega), left_pos (by simpa [needCmpSS] using h0)]
    simp only [laws_szCmpSS.l0, h1, if_false, needCmpSS, Int.sub_zero]
    exact Ev.some
  | succ d ih =>
    intro i a hi h0 ha
    have hlt : i < l.length := by omega
    have h1 : (i : Int) < (l.length : Int) := by omega
    have h2 : (0 : Int) ≤ (i : Int) := by omega
    have h3 := next_i hlt hl
    have hn := needCmpSS_nonneg (l.drop (i + 1))
    have hn0 := needCmpS_nonneg l[i]
    have hg : rd_L5 l (i : Int) = l[i] := rdD_cast _ hlt
    refine Ev.succ ?_
    rw [drop_get hlt]
    simp only [laws_szCmpSS.l0, h1, h2, h3, if_true, hg, needCmpSS]
    refine Ev.bind (szCmpS l[i] a (ho _ (List.getElem_mem hlt)) h0 ha) ?_
    by_cases h5 : (l[i].length : Int) + needCmpS l[i] ≤ a
    · rw [left_pos h5]
      simp only [show ¬ a - ((l[i].length : Int) + needCmpS l[i]) < 0 by omega, if_false]
      refine Ev.cast (ih (i + 1) (a - ((l[i].length : Int) + needCmpS l[i])) (by omega) (by omega) (by omega)) ?_
      unfold left
      split <;> split <;> omega
    · rw [left_not h5]
      exact Ev.cast Ev.some (left_not (by omega)).symm
theorem szCmpSS (l : List (List S93)) (a : Int) (ho : l.length ≤ maxLen ∧ ∀ y ∈ l, (y.length ≤ maxLen ∧ ∀ x ∈ y, ok93 x)) (h0 : 0 ≤ a) (ha : a ≤ 9223372036854775807) : Ev (fun k => laws_szCmpSS.f k l a) (left ((l.length : Int) + needCmpSS l) a) := by
  obtain ⟨hl, ho⟩ := ho
  unfold maxLen at hl
  unfold laws_szCmpSS.f
  have hn := needCmpSS_nonneg l
  rw [wrap64_id (by omega) (by omega)]
  by_cases h : a - (l.length : Int) < 0
  · simp only [h, if_true]
    rw [left_not (by omega)]
    exact Ev.some
  · simp only [h, if_false]
    refine Ev.succ ?_
    simp only [laws_szCmpSS.j0]
    refine Ev.cast (szCmpSS_l l (by omega) ho l.length 0 (a - (l.length : Int)) (by omega) (by omega) (by omega)) ?_
    rw [List.drop_zero]
    unfold left
    split <;> split <;> omega
def convCmpSS (l : List (List S93)) : List (List S68) := l.map (fun y => y.map convCmp)
theorem toCmpSS_l (l : List (List S93)) (hl : l.length ≤ 9223372036854775807) (hn : ∀ x ∈ l, (x.length : Int) + needCmpS x ≤ 1048576) (d : Nat) : ∀ (i : Nat) (x : List (List S68)), i + d = l.length → x.length = l.length → x.take i = (convCmpSS l).take i →
    Ev (fun k => laws_toCmpSS.l0 k l x (i : Int)) (convCmpSS l) := by
  induction d with
  | zero =>
    intro i x hi hx he
    have h1 : ¬ (i : Int) < (l.length : Int) := by omega
    have e : x = convCmpSS l := by rwa [List.take_of_length_le (by omega), List.take_of_length_le (by simp [convCmpSS]; omega)] at he
    refine Ev.succ ?_
    simp only [laws_toCmpSS.l0, h1, if_false, e]
    exact Ev.some
  | succ d ih =>
    intro i x hi hx he
    have hlt : i < l.length := by omega
    have h1 : (i : Int) < (l.length : Int) := by omega
    have h1x : (i : Int) < (x.length : Int) := by omega
    have h2 : (0 : Int) ≤ (i : Int) := by omega
    have h3 := next_i hlt hl
    have hg : rd_L5 l (i : Int) = l[i] := rdD_cast _ hlt
    have hm : i < (convCmpSS l).length := by simpa [convCmpSS] using hlt
    have hv : (convCmpSS l)[i] = l[i].map convCmp := by simp [convCmpSS]
    refine Ev.succ ?_
    simp only [laws_toCmpSS.l0, h1, h2, h3, if_true, hg]
    refine Ev.bind (toCmpS l[i] (hn _ (List.getElem_mem hlt))) ?_
    simp only [h1x, if_true, Int.toNat_natCast]
    refine ih (i + 1) _ (by omega) (by simpa using hx) ?_
    have := take_set_step (l := x) (m := convCmpSS l) (by omega) hm he
    rw [hv] at this
    exact this
theorem toCmpSS (l : List (List S93)) (hn : (l.length : Int) + needCmpSS l ≤ 1048576) : Ev (fun k => laws_toCmpSS.f k l) (convCmpSS l) := by
  have h0 := needCmpSS_nonneg l
  unfold laws_toCmpSS.f
  simp only [show (0 : Int) ≤ (l.length : Int) by omega, if_true]
  refine Ev.cond (fun _ => ?_) (fun hq => absurd (by omega) hq)
  exact toCmpSS_l l (by omega) (fun x hx => by have := needCmpSS_mem hx; omega) l.length 0 _ (by omega) (by simp) (by simp)
theorem eqCmpSS_l (l : List (List S68)) (hl : l.length ≤ 9223372036854775807) (hf : ∀ y ∈ l, (y.length ≤ 9223372036854775807 ∧ ∀ z ∈ y, fitCmp z)) (d : Nat) : ∀ i : Nat, i + d = l.length → Ev (fun k => laws_eqCmpSS.l0 k l l (i : Int)) true := by
  induction d with
  | zero =>
    intro i hi
    have h1 : ¬ (i : Int) < (l.length : Int) := by omega
    refine Ev.succ ?_
    simp only [laws_eqCmpSS.l0, h1, if_false]
    exact Ev.some
  | succ d ih =>
    intro i hi
    have hlt : i < l.length := by omega
    have h1 : (i : Int) < (l.length : Int) := by omega
    have h2 : (0 : Int) ≤ (i : Int) := by omega
    have h3 := next_i hlt hl
    have hg : rd_L9 l (i : Int) = l[i] := rdD_cast _ hlt
    refine Ev.succ ?_
    simp only [laws_eqCmpSS.l0, h1, h2, h3, if_true, hg]
    refine Ev.bind (eqCmpS l[i] (hf _ (List.getElem_mem hlt))) ?_
    simp only [if_true]
    exact ih (i + 1) (by omega)
theorem eqCmpSS (l : List (List S68)) (hf : l.length ≤ 9223372036854775807 ∧ ∀ y ∈ l, (y.length ≤ 9223372036854775807 ∧ ∀ z ∈ y, fitCmp z)) : Ev (fun k => laws_eqCmpSS.f k l l) true := by
  unfold laws_eqCmpSS.f
  simp only [if_true]
  refine Ev.succ ?_
  simp only [laws_eqCmpSS.j0]
  exact eqCmpSS_l l hf.1 hf.2 l.length 0 (by omega)
theorem fit_convCmpSS (l : List (List S93)) (hn : (l.length : Int) + needCmpSS l ≤ 1048576) : (convCmpSS l).length ≤ 9223372036854775807 ∧ ∀ y ∈ convCmpSS l, (y.length ≤ 9223372036854775807 ∧ ∀ z ∈ y, fitCmp z) := by
  have h0 := needCmpSS_nonneg l
  refine ⟨by simp only [convCmpSS, List.length_map]; omega, fun y hy => ?_⟩
  obtain ⟨u, hu, rfl⟩ := List.mem_map.1 hy
  exact fit_convCmpS u (by have := needCmpSS_mem hu; omega)
end Go.Proofs.YtpmooegakomnbabDoor.Pure
/- The kinds of bytes: what the reference's and the program's tests of one byte come to. -/
namespace Go.Proofs.YtpmooegakomnbabDoor.Pure
open Go.RowKit Go.Proofs.YtpmooegakomnbabDoor.PGC Go.Proofs.YtpmooegakomnbabDoorW.PrintWords Go.Proofs.YtpmooegakomnbabDoorW.PrintLast Go.Proofs.YtpmooegakomnbabDoor.Aux

def inB (x a b : Int) : Bool := decide (a ≤ x) && decide (x ≤ b)
def smallB (x : Int) : Bool := inB x 97 122
def digitB (x : Int) : Bool := inB x 48 57
def upperB (x : Int) : Bool := inB x 65 90

theorem in_f (a b c : Int) : spec_l1In.f a b c = some (inB a b c) := by
  unfold spec_l1In.f inB
  by_cases h : b ≤ a <;> simp [h]
theorem inRange_f (a b c : Int) : impl_inRange.f a b c = some (inB a b c) := by
  unfold impl_inRange.f inB
  by_cases h : b ≤ a <;> simp [h]
theorem small_spec {x : Int} (h : 0 ≤ x ∧ x ≤ 255) : spec_l1Small.f x = some (smallB x) := by
  unfold spec_l1Small.f
  rw [wrap64_id (by omega) (by omega), in_f]
  rfl
theorem digit_spec {x : Int} (h : 0 ≤ x ∧ x ≤ 255) : spec_l1Digit.f x = some (digitB x) := by
  unfold spec_l1Digit.f
  rw [wrap64_id (by omega) (by omega), in_f]
  rfl
theorem small_impl (x : Int) : impl_isSmall.f x = some (smallB x) := by
  unfold impl_isSmall.f smallB inB
  by_cases h : 97 ≤ x <;> simp [h]
theorem digit_impl (x : Int) : impl_isFigure.f x = some (digitB x) := by
  unfold impl_isFigure.f digitB inB
  by_cases h : 48 ≤ x <;> simp [h]

end Go.Proofs.YtpmooegakomnbabDoor.Pure
/- Texts of digits alone, of the reference and of the program. -/
namespace Go.Proofs.YtpmooegakomnbabDoor.Pure
open Go.RowKit Go.Proofs.YtpmooegakomnbabDoor.PGC Go.Proofs.YtpmooegakomnbabDoorW.PrintWords Go.Proofs.YtpmooegakomnbabDoorW.PrintLast Go.Proofs.YtpmooegakomnbabDoor.Aux

def digitsB (s : ByteArray) : Bool := (bs s).all digitB

theorem spec_digits_l (s : ByteArray) (hs : s.size ≤ 9223372036854775807) (d : Nat) : ∀ i : Nat, i + d = s.size → Ev (fun k => spec_l3Digits.l0 k s (i : Int)) (((bs s).drop i).all digitB) := by
  induction d with
  | zero =>
    intro i hi
    have h1 : ¬ (i : Int) < (s.size : Int) := by omega
    refine Ev.succ ?_
    simp only [spec_l3Digits.l0, h1, if_false, bs_end (show s.size ≤ i by omega), List.all_nil]
    exact Ev.some
  | succ d ih =>
    intro i hi
    have h1 : (i : Int) < (s.size : Int) := by omega
    have h2 : (0 : Int) ≤ (i : Int) := by omega
    have h3 := next_i (show i < s.size by omega) hs
    have ih' := ih (i + 1) (by omega)
    refine Ev.succ ?_
    rw [bs_drop (by omega), List.all_cons]
    simp only [spec_l3Digits.l0, h1, h2, h3, if_true, digit_spec (bt_range s i), Option.bind_some]
    cases hp : digitB (bt s (i : Int)) with
    | true => simpa using ih'
    | false => simpa using Ev.some
theorem spec_digits (s : ByteArray) (hs : s.size ≤ 9223372036854775807) : Ev (fun k => spec_l3Digits.f k s) (digitsB s) := spec_digits_l s hs s.size 0 (by omega)

theorem impl_figures_l (s : ByteArray) (hs : s.size ≤ 9223372036854775807) (d : Nat) : ∀ i : Nat, i + d = s.size → Ev (fun k => impl_isFigures.l0 k s (i : Int)) (((bs s).drop i).all digitB && decide (s.size ≠ 0)) := by
  induction d with
  | zero =>
    intro i hi
    have h1 : ¬ (i : Int) < (s.size : Int) := by omega
    refine Ev.succ ?_
    simp only [impl_isFigures.l0, h1, if_false, bs_end (show s.size ≤ i by omega), List.all_nil, Bool.true_and]
    refine Ev.cast Ev.some ?_
    rw [toList_data]
    by_cases h : s.size = 0
    · have : s.data.toList = [] := by
        apply List.eq_nil_of_length_eq_zero
        simpa using h
      rw [this, h]
      rfl
    · have : s.data.toList ≠ [] := by
        intro e
        apply h
        have := congrArg List.length e
        simpa using this
      simp [h, this]
  | succ d ih =>
    intro i hi
    have h1 : (i : Int) < (s.size : Int) := by omega
    have h2 : (0 : Int) ≤ (i : Int) := by omega
    have h3 := next_i (show i < s.size by omega) hs
    have ih' := ih (i + 1) (by omega)
    refine Ev.succ ?_
    rw [bs_drop (by omega), List.all_cons]
    simp only [impl_isFigures.l0, h1, h2, h3, if_true, digit_impl, Option.bind_some]
    cases hp : digitB (bt s (i : Int)) with
    | true => simpa using ih'
    | false => simpa using Ev.some
theorem impl_figures (s : ByteArray) (hs : s.size ≤ 9223372036854775807) : Ev (fun k => impl_isFigures.f k s) (digitsB s && decide (s.size ≠ 0)) := impl_figures_l s hs s.size 0 (by omega)


end Go.Proofs.YtpmooegakomnbabDoor.Pure
/- What VerOk comes to, of the reference and of the program. -/
namespace Go.Proofs.YtpmooegakomnbabDoor.Pure
open Go.RowKit Go.Proofs.YtpmooegakomnbabDoor.PGC Go.Proofs.YtpmooegakomnbabDoorW.PrintWords Go.Proofs.YtpmooegakomnbabDoorW.PrintLast Go.Proofs.YtpmooegakomnbabDoor.Aux

def preC (x : Int) : Bool := smallB x || upperB x || digitB x || decide (x = 45)
def preEnd (s : ByteArray) : Bool := inB s.size 1 8 && (!digitsB s || decide (s.size = 1) || decide (bt s 0 ≠ 48))
def preB (s : ByteArray) : Bool := (bs s).all preC && preEnd s

theorem spec_part_l (s : ByteArray) (hs : s.size ≤ 9223372036854775807) (d : Nat) : ∀ i : Nat, i + d = s.size → Ev (fun k => spec_l3Part.l0 k s (i : Int)) (((bs s).drop i).all preC && preEnd s) := by
  induction d with
  | zero =>
    intro i hi
    have h1 : ¬ (i : Int) < (s.size : Int) := by omega
    refine Ev.succ ?_
    simp only [spec_l3Part.l0, h1, if_false, bs_end (show s.size ≤ i by omega), List.all_nil, Bool.true_and, in_f, Option.bind_some, preEnd]
    cases hb : inB (s.size : Int) 1 8 with
    | false => simpa using Ev.some
    | true =>
      simp only [if_true, Bool.true_and]
      refine Ev.bind (spec_digits s hs) ?_
      cases hd : digitsB s with
      | false => simpa using Ev.some
      | true =>
        have hpos : (0 : Int) < (s.size : Int) := by simp [inB] at hb; omega
        simp only [if_true, hpos, Bool.not_true, Bool.false_or]
        by_cases he : (s.size : Int) = 1
        · simp only [he, if_true]
          refine Ev.cast Ev.some ?_
          simp [show s.size = 1 by omega]
        · simp only [he, if_false]
          refine Ev.cast Ev.some ?_
          simp only [show ¬ s.size = 1 by omega, decide_false, Bool.false_or]
          by_cases h0 : bt s 0 = 48 <;> simp [h0]
  | succ d ih =>
    intro i hi
    have h1 : (i : Int) < (s.size : Int) := by omega
    have h2 : (0 : Int) ≤ (i : Int) := by omega
    have h3 := next_i (show i < s.size by omega) hs
    have ih' := ih (i + 1) (by omega)
    have hr := bt_range s i
    refine Ev.succ ?_
    rw [bs_drop (by omega), List.all_cons]
    simp only [spec_l3Part.l0, h1, if_true]
    refine Ev.succ ?_
    simp only [spec_l3Part.j1, h1, h2, h3, if_true, digit_spec hr, small_spec hr, wrap64_id (show -9223372036854775808 ≤ bt s (i : Int) by omega) (show bt s (i : Int) ≤ 9223372036854775807 by omega), in_f, Option.bind_some, preC]
    cases hp : digitB (bt s (i : Int)) with
    | true => simpa using ih'
    | false =>
      cases hq : smallB (bt s (i : Int)) with
      | true => simpa using ih'
      | false =>
        cases hu : inB (bt s (i : Int)) 65 90 with
        | true => simpa [upperB, hu] using ih'
        | false =>
          by_cases he : bt s (i : Int) = 45
          · simpa [he] using ih'
          · simpa [upperB, hu, he] using Ev.some
theorem spec_part (s : ByteArray) (hs : s.size ≤ 9223372036854775807) : Ev (fun k => spec_l3Part.f k s) (preB s) := spec_part_l s hs s.size 0 (by omega)

theorem one_zero (s : ByteArray) : s.toList = ([48] : List UInt8) ↔ (s.size = 1 ∧ bt s 0 = 48) := by
  rw [toList_data]
  constructor
  · intro h
    have hl : s.size = 1 := by
      have := congrArg List.length h
      simpa using this
    refine ⟨hl, ?_⟩
    rw [bt_bs]
    unfold bs
    rw [h]
    rfl
  · rintro ⟨h1, h2⟩
    rw [bt_bs] at h2
    have hb : bs s = [48] := by
      have hl := bs_length s
      rw [h1] at hl
      match hq : bs s, hl with
      | [x], _ =>
        rw [hq] at h2
        simp at h2
        rw [h2]
    unfold bs at hb
    match hq : s.data.toList with
    | [] => rw [hq] at hb; cases hb
    | [x] =>
      rw [hq] at hb
      simp at hb
      have : x = 48 := by
        apply UInt8.toNat_inj.1
        simp
        omega
      rw [this]
    | x :: y :: r => rw [hq] at hb; simp at hb

theorem impl_pre_l (s : ByteArray) (hs : s.size ≤ 9223372036854775807) (d : Nat) : ∀ i : Nat, i + d = s.size → Ev (fun k => impl_preOk.l0 k s (i : Int)) (((bs s).drop i).all preC && preEnd s) := by
  induction d with
  | zero =>
    intro i hi
    have h1 : ¬ (i : Int) < (s.size : Int) := by omega
    refine Ev.succ ?_
    simp only [impl_preOk.l0, h1, if_false, bs_end (show s.size ≤ i by omega), List.all_nil, Bool.true_and, inRange_f, Option.bind_some, preEnd]
    cases hb : inB (s.size : Int) 1 8 with
    | false => simpa using Ev.some
    | true =>
      simp only [if_true, Bool.true_and]
      have hpos : (0 : Int) < (s.size : Int) := by simp [inB] at hb; omega
      refine Ev.bind (impl_figures s hs) ?_
      simp only [show s.size ≠ 0 by omega, ne_eq, not_false_eq_true, decide_true, Bool.and_true]
      cases hd : digitsB s with
      | false => simpa using Ev.some
      | true =>
        simp only [if_true, hpos, Bool.not_true, Bool.false_or, one_zero]
        by_cases he : s.size = 1
        · by_cases h0 : bt s 0 = 48
          · simp only [he, h0, and_self, if_true]
            exact Ev.some
          · simp only [he, h0, and_false, if_false]
            refine Ev.cast Ev.some ?_
            simp [h0]
        · simp only [he, false_and, if_false]
          refine Ev.cast Ev.some ?_
          simp only [decide_false, Bool.false_or]
          by_cases h0 : bt s 0 = 48 <;> simp [h0]
  | succ d ih =>
    intro i hi
    have h1 : (i : Int) < (s.size : Int) := by omega
    have h2 : (0 : Int) ≤ (i : Int) := by omega
    have h3 := next_i (show i < s.size by omega) hs
    have ih' := ih (i + 1) (by omega)
    have hr := bt_range s i
    refine Ev.succ ?_
    rw [bs_drop (by omega), List.all_cons]
    simp only [impl_preOk.l0, h1, if_true]
    refine Ev.succ ?_
    simp only [impl_preOk.j1, h1, h2, h3, if_true, digit_impl, small_impl, Option.bind_some, preC, upperB, inB, ge_iff_le]
    cases hq : smallB (bt s (i : Int)) with
    | true => simpa using ih'
    | false =>
      by_cases ha : 65 ≤ bt s (i : Int)
      · by_cases hb : bt s (i : Int) ≤ 90
        · simpa [ha, hb] using ih'
        · cases hp : digitB (bt s (i : Int)) with
          | true => simpa [ha, hb] using ih'
          | false =>
            by_cases he : bt s (i : Int) = 45
            · simp [he] at ha
            · simpa [ha, hb, he] using Ev.some
      · cases hp : digitB (bt s (i : Int)) with
        | true => simpa [ha] using ih'
        | false =>
          by_cases he : bt s (i : Int) = 45
          · simpa [he] using ih'
          · simpa [ha, he] using Ev.some
theorem impl_pre (s : ByteArray) (hs : s.size ≤ 9223372036854775807) : Ev (fun k => impl_preOk.f k s) (preB s) := impl_pre_l s hs s.size 0 (by omega)

def verEnd (a b c : Int) (l : List ByteArray) : Bool := inB a 0 9999 && (inB b 0 9999 && (inB c 0 9999 && decide ((l.length : Int) ≤ 3)))
def verB (a b c : Int) (l : List ByteArray) : Bool := l.all preB && verEnd a b c l

theorem spec_ver_l (a b c : Int) (l : List ByteArray) (hl : l.length ≤ 9223372036854775807) (hs : ∀ x ∈ l, x.size ≤ 9223372036854775807) (d : Nat) : ∀ i : Nat, i + d = l.length → Ev (fun k => spec_VerOk.l0 k (i : Int) a b c l) ((l.drop i).all preB && verEnd a b c l) := by
  induction d with
  | zero =>
    intro i hi
    have h1 : ¬ (i : Int) < (l.length : Int) := by omega
    refine Ev.succ ?_
    rw [List.drop_eq_nil_of_le (by omega)]
    simp only [spec_VerOk.l0, h1, if_false, List.all_nil, Bool.true_and, in_f, Option.bind_some, verEnd]
    cases inB a 0 9999 <;> cases inB b 0 9999 <;> cases inB c 0 9999 <;> simpa using Ev.some
  | succ d ih =>
    intro i hi
    have hlt : i < l.length := by omega
    have h1 : (i : Int) < (l.length : Int) := by omega
    have h2 : (0 : Int) ≤ (i : Int) := by omega
    have h3 := next_i hlt hl
    have ih' := ih (i + 1) (by omega)
    refine Ev.succ ?_
    rw [drop_get hlt, List.all_cons]
    simp only [spec_VerOk.l0, h1, h2, h3, if_true, rdOf_cast _ hlt]
    refine Ev.bind (spec_part l[i] (hs _ (List.getElem_mem hlt))) ?_
    cases hp : preB l[i] with
    | true => simpa using ih'
    | false => simpa using Ev.some
theorem spec_ver (a b c : Int) (l : List ByteArray) (hl : l.length ≤ 9223372036854775807) (hs : ∀ x ∈ l, x.size ≤ 9223372036854775807) : Ev (fun k => spec_VerOk.f k a b c l) (verB a b c l) := spec_ver_l a b c l hl hs l.length 0 (by omega)

theorem impl_ver_l (a b c : Int) (l : List ByteArray) (hl : l.length ≤ 9223372036854775807) (hs : ∀ x ∈ l, x.size ≤ 9223372036854775807) (d : Nat) : ∀ i : Nat, i + d = l.length → Ev (fun k => impl_VerOk.l0 k l (l.length : Int) (i : Int) a b c l) ((l.drop i).all preB && verEnd a b c l) := by
  induction d with
  | zero =>
    intro i hi
    have h1 : ¬ (i : Int) < (l.length : Int) := by omega
    refine Ev.succ ?_
    rw [List.drop_eq_nil_of_le (by omega)]
    simp only [impl_VerOk.l0, h1, if_false, List.all_nil, Bool.true_and, inRange_f, Option.bind_some, verEnd]
    cases inB a 0 9999 <;> cases inB b 0 9999 <;> cases inB c 0 9999 <;> simpa using Ev.some
  | succ d ih =>
    intro i hi
    have hlt : i < l.length := by omega
    have h1 : (i : Int) < (l.length : Int) := by omega
    have h2 : (0 : Int) ≤ (i : Int) := by omega
    have h3 := next_i hlt hl
    have ih' := ih (i + 1) (by omega)
    refine Ev.succ ?_
    rw [drop_get hlt, List.all_cons]
    simp only [impl_VerOk.l0, h1, h2, h3, if_true, rdOf_cast _ hlt]
    refine Ev.bind (impl_pre l[i] (hs _ (List.getElem_mem hlt))) ?_
    cases hp : preB l[i] with
    | true => simpa using ih'
    | false => simpa using Ev.some
theorem impl_ver (a b c : Int) (l : List ByteArray) (hl : l.length ≤ 9223372036854775807) (hs : ∀ x ∈ l, x.size ≤ 9223372036854775807) : Ev (fun k => impl_VerOk.f k a b c l) (verB a b c l) := impl_ver_l a b c l hl hs l.length 0 (by omega)

end Go.Proofs.YtpmooegakomnbabDoor.Pure
/- What a text comes to when it is split: one piece behind the other. -/
namespace Go.Proofs.YtpmooegakomnbabDoor.Pure
open Go.RowKit Go.Proofs.YtpmooegakomnbabDoor.Aux Go.Proofs.YtpmooegakomnbabDoorW.PrintWords

theorem Ev.yes {α : Type} {c : Prop} [Decidable c] {g f : Nat → Option α} {r : α} (hc : c) (h : Ev g r) : Ev (fun k => if c then g k else f k) r := by
  simpa only [hc, if_true] using h
theorem Ev.no {α : Type} {c : Prop} [Decidable c] {g f : Nat → Option α} {r : α} (hc : ¬ c) (h : Ev f r) : Ev (fun k => if c then g k else f k) r := by
  simpa only [hc, if_false] using h
/-- The bytes u ahead of the first piece. -/
def glue (u : List UInt8) : List (List UInt8) → List (List UInt8)
  | [] => [u]
  | p :: ps => (u ++ p) :: ps
theorem glue_nil : ∀ {l : List (List UInt8)}, l ≠ [] → glue [] l = l
  | [], h => absurd rfl h
  | _ :: _, _ => rfl
theorem glue_glue (u v : List UInt8) : ∀ l : List (List UInt8), l ≠ [] → glue u (glue v l) = glue (u ++ v) l
  | [], h => absurd rfl h
  | p :: ps, _ => by simp [glue]
theorem glue_ne (u : List UInt8) : ∀ l, glue u l ≠ []
  | [] => by simp [glue]
  | _ :: _ => by simp [glue]

theorem split_miss {s sep : List UInt8} (h : Lib.index s sep = -1) : Lib.split s sep = [s] := by
  unfold Lib.split
  rw [Lib.count_miss h]
  rfl
theorem split_hit {s sep : List UInt8} {i : Nat} (h1 : sep ≠ []) (h : Lib.index s sep = i) : Lib.split s sep = s.take i :: Lib.split (s.drop (i + sep.length)) sep := by
  unfold Lib.split
  rw [Lib.count_hit h1 h, Nat.add_comm]
  have hm : ¬ (Lib.index s sep == -1) = true := fun e => by have := beq_iff_eq.1 e; omega
  have e : (Lib.index s sep).toNat = i := by omega
  rw [Lib.splitK, if_neg hm, e]
  rfl
theorem split_ne (s sep : List UInt8) : Lib.split s sep ≠ [] := by
  unfold Lib.split
  cases Lib.count s sep with
  | zero => simp [Lib.splitK]
  | succ k =>
    unfold Lib.splitK
    split <;> simp
theorem split_nil {sep : List UInt8} (h1 : sep ≠ []) : Lib.split [] sep = [[]] := by
  refine split_miss ?_
  cases sep with
  | nil => exact absurd rfl h1
  | cons a b => rfl
theorem split_at {s sep : List UInt8} (h1 : sep ≠ []) (h : sep.isPrefixOf s = true) : Lib.split s sep = [] :: Lib.split (s.drop sep.length) sep := by
  have hi : Lib.index s sep = ((0 : Nat) : Int) := by
    cases s with
    | nil =>
      cases sep with
      | nil => exact absurd rfl h1
      | cons a b => simp at h
    | cons b l => unfold Lib.index; rw [if_pos h]; rfl
  rw [split_hit h1 hi]
  simp
theorem split_by {b : UInt8} {l sep : List UInt8} (h1 : sep ≠ []) (h : sep.isPrefixOf (b :: l) = false) : Lib.split (b :: l) sep = glue [b] (Lib.split l sep) := by
  have hx : Lib.index (b :: l) sep = if Lib.index l sep == -1 then -1 else Lib.index l sep + 1 := by rw [Lib.index, h]; simp
  by_cases hm : Lib.index l sep = -1
  · rw [split_miss hm, split_miss (by rw [hx, if_pos (beq_iff_eq.2 hm)])]
    rfl
  · have hge := Lib.index_ge l sep
    obtain ⟨j, hj⟩ : ∃ j : Nat, Lib.index l sep = j := ⟨(Lib.index l sep).toNat, by omega⟩
    have hx' : Lib.index (b :: l) sep = ((j + 1 : Nat) : Int) := by rw [hx, if_neg (fun e => hm (beq_iff_eq.1 e)), hj]; omega
    rw [split_hit h1 hj, split_hit h1 hx']
    simp [glue, Nat.add_right_comm]

theorem split_one_at (c : UInt8) (l : List UInt8) : Lib.split (c :: l) [c] = [] :: Lib.split l [c] := by
  rw [split_at (sep := [c]) (by simp) (by unfold List.isPrefixOf; simp)]
  rfl
theorem split_one_by {b c : UInt8} (l : List UInt8) (h : ¬ b = c) : Lib.split (b :: l) [c] = glue [b] (Lib.split l [c]) :=
  split_by (by simp) (by
    unfold List.isPrefixOf
    rw [show (c == b) = false from by simpa using fun e => h e.symm]
    rfl)

/-- A text of bytes. -/
def ofL (l : List UInt8) : ByteArray := ⟨l.toArray⟩
theorem ofL_data (s : ByteArray) : ofL s.data.toList = s := by cases s; simp [ofL]
theorem data_ofL (l : List UInt8) : (ofL l).data.toList = l := by simp [ofL]
theorem ofL_size (l : List UInt8) : (ofL l).size = l.length := by simp [ofL, ByteArray.size]
/-- The pieces of a text. -/
def piecesB (s sep : ByteArray) : List ByteArray := (Lib.split s.data.toList sep.data.toList).map ofL
theorem splitB_pieces (s sep : ByteArray) : Lib.splitB sep 0 (Lib.countB s sep) s = piecesB s sep := by
  have h := Lib.splitB_data sep 0 (Lib.countB s sep) s
  unfold piecesB Lib.split
  rw [← h, List.map_map]
  conv => lhs; rw [← List.map_id (Lib.splitB sep 0 (Lib.countB s sep) s)]
  exact List.map_congr_left (fun x _ => by simp [ofL_data])
theorem extract_ofL (s : ByteArray) (a b : Nat) : s.extract a b = ofL ((s.data.toList.drop a).take (b - a)) := by
  rw [← ofL_data (s.extract a b), Lib.extract_data]
theorem data_drop {s : ByteArray} {i : Nat} (h : i < s.size) : ∃ b : UInt8, s.data.toList.drop i = b :: s.data.toList.drop (i + 1) ∧ bt s (i : Int) = (b.toNat : Int) ∧ s.data.toList[i]? = some b := by
  have hl : i < s.data.toList.length := by simpa using h
  refine ⟨s.data.toList[i], List.drop_eq_getElem_cons hl, ?_, List.getElem?_eq_getElem hl⟩
  rw [bt_bs]
  unfold bs
  rw [List.getD_eq_getElem?_getD, Int.toNat_natCast, List.getElem?_map, List.getElem?_eq_getElem hl]
  rfl
/-- How many pieces, and how long each is. -/
theorem pieces_mem {s sep : ByteArray} (h1 : sep.data.toList ≠ []) : ∀ x ∈ piecesB s sep, x.size ≤ s.size := by
  have main : ∀ (n : Nat) (l : List UInt8), l.length = n → ∀ x ∈ Lib.split l sep.data.toList, x.length ≤ n := by
    intro n
    induction n using Nat.strongRecOn with
    | _ n ih =>
      intro l hl x hx
      rcases Lib.index_spec l sep.data.toList with ⟨hm, _⟩ | ⟨i, hi, hle, _, _⟩
      · rw [split_miss hm] at hx
        obtain rfl := List.mem_singleton.1 hx
        omega
      · rw [split_hit h1 hi] at hx
        have hp : 0 < sep.data.toList.length := List.length_pos_iff.2 h1
        have hr := Lib.index_room l sep.data.toList (by omega)
        rcases List.mem_cons.1 hx with rfl | hx
        · rw [List.length_take]; omega
        · have := ih (l.length - (i + sep.data.toList.length)) (by omega) _ (by rw [List.length_drop]) x hx
          omega
  intro x hx
  obtain ⟨u, hu, rfl⟩ := List.mem_map.1 hx
  rw [ofL_size]
  have := main _ _ rfl u hu
  rwa [show s.data.toList.length = s.size from by simp] at this
theorem pieces_length {s sep : ByteArray} (h1 : 1 ≤ sep.size) : (piecesB s sep).length ≤ s.size + 1 := by
  rw [← splitB_pieces]
  have := Lib.splitB_length_le sep 0 (Lib.countB s sep) s
  have := Lib.countB_le sep h1 s.size s (Nat.le_refl _)
  omega
end Go.Proofs.YtpmooegakomnbabDoor.Pure
/- What NumText comes to, of the reference and of the program: the decimal digits. -/
namespace Go.Proofs.YtpmooegakomnbabDoor.Pure
open Go.RowKit Go.Proofs.YtpmooegakomnbabDoor.PGC Go.Proofs.YtpmooegakomnbabDoorW.PrintWords Go.Proofs.YtpmooegakomnbabDoorW.PrintLast Go.Proofs.YtpmooegakomnbabDoor.Aux

/-- The text of a number's digits; of one below 0: "0". -/
def numB (x : Int) : ByteArray := ofL (Lib.decDigits x.toNat)
theorem dig_one (x : Nat) : strOfNums [wrap64 (48 + Int.tmod (x : Int) 10) % 256] = ofL [UInt8.ofNat (48 + x % 10)] := by
  have h : wrap64 (48 + Int.tmod (x : Int) 10) % 256 = ((48 + x % 10 : Nat) : Int) := by
    rw [Int.tmod_eq_emod_of_nonneg (by omega), wrap64_id (by omega) (by omega)]
    omega
  rw [h]
  rfl
theorem ofL_append (a b : List UInt8) : ofL a ++ ofL b = ofL (a ++ b) := by
  rw [← ofL_data (ofL a ++ ofL b)]
  simp [ofL]
theorem spec_num_l (m : Nat) : ∀ (x : Nat) (rest : List UInt8), x < 10 ^ m → x ≤ 9223372036854775807 → m + rest.length ≤ 100 →
    Ev (fun k => spec_NumText.l0 k (x : Int) (ofL (UInt8.ofNat (48 + x % 10) :: rest))) (ofL (Lib.decDigits x ++ rest)) := by
  induction m with
  | zero =>
    intro x rest hx _ hr
    obtain rfl : x = 0 := by simp at hx; exact hx
    refine Ev.succ ?_
    simp only [spec_NumText.l0, show ¬ ((0 : Nat) : Int) > 9 by omega, if_false]
    refine Ev.cast Ev.some ?_
    rw [Lib.decDigits, dif_pos (by omega)]
    rfl
  | succ m ih =>
    intro x rest hx hx2 hr
    by_cases h9 : x < 10
    · refine Ev.succ ?_
      simp only [spec_NumText.l0, show ¬ (x : Int) > 9 by omega, if_false]
      refine Ev.cast Ev.some ?_
      rw [Lib.decDigits, dif_pos h9, Nat.mod_eq_of_lt h9]
      rfl
    · have hd : wrap64 (Int.tdiv (x : Int) 10) = ((x / 10 : Nat) : Int) := by
        rw [Int.tdiv_eq_ediv_of_nonneg (by omega), wrap64_id (by omega) (by omega)]
        omega
      have hw : ∀ (y : Nat), (strOfNums [wrap64 (48 + Int.tmod (y : Int) 10) % 256]) = ofL [UInt8.ofNat (48 + y % 10)] := dig_one
      have := ih (x / 10) (UInt8.ofNat (48 + x % 10) :: rest) (by rw [Nat.pow_succ] at hx; omega) (by omega) (by simp only [List.length_cons]; omega)
      refine Ev.succ ?_
      simp only [spec_NumText.l0, show (x : Int) > 9 by omega, if_true, Option.bind_some, hd, hw, ofL_append, ofL_size, List.length_cons, List.length_nil, show 0 + 1 + (rest.length + 1) ≤ 9223372036854775807 by omega]
      refine Ev.cast this ?_
      rw [show Lib.decDigits x = Lib.decDigits (x / 10) ++ [UInt8.ofNat (48 + x % 10)] from by rw [Lib.decDigits, dif_neg h9]]
      simp
theorem spec_num (x : Int) (h : x ≤ 9223372036854775807) : Ev (fun k => spec_NumText.f k x) (numB x) := by
  unfold spec_NumText.f numB
  by_cases h0 : x < 0
  · simp only [h0, if_true]
    refine Ev.succ ?_
    simp only [spec_NumText.j0]
    have := spec_num_l 1 0 [] (by omega) (by omega) (by simp)
    rw [show x.toNat = 0 by omega]
    have hd := dig_one 0
    rw [show ((0 : Nat) : Int) = 0 from rfl] at hd this
    rw [hd]
    simpa using this
  · simp only [h0, if_false]
    obtain ⟨n, rfl⟩ : ∃ n : Nat, x = n := ⟨x.toNat, by omega⟩
    refine Ev.succ ?_
    simp only [spec_NumText.j0]
    have := spec_num_l 19 n [] (by omega) (by omega) (by simp)
    rw [dig_one n]
    simpa using this
theorem impl_num (x : Int) (h : x ≤ 9223372036854775807) : impl_NumText.f x = some (numB x) := by
  unfold impl_NumText.f strconv_Itoa.f
  have hm : mx x 0 = (x.toNat : Int) := by unfold mx; split <;> omega
  rw [hm, if_pos ⟨by omega, by omega⟩]
  simp only [Option.bind_some, numB, Lib.itoa, show ¬ ((x.toNat : Nat) : Int) < 0 by omega, if_false, Int.toNat_natCast]
  rfl
end Go.Proofs.YtpmooegakomnbabDoor.Pure
/- What Join comes to, of the reference and of the program. -/
namespace Go.Proofs.YtpmooegakomnbabDoor.Pure
open Go.RowKit Go.Proofs.YtpmooegakomnbabDoor.PGC Go.Proofs.YtpmooegakomnbabDoorW.PrintWords Go.Proofs.YtpmooegakomnbabDoorW.PrintLast Go.Proofs.YtpmooegakomnbabDoor.Aux

def dats (l : List ByteArray) : List (List UInt8) := l.map (·.data.toList)
def joinB (l : List ByteArray) (sep : ByteArray) : ByteArray := ofL (Lib.join (dats l) sep.data.toList)
/-- How many bytes it takes at most. -/
def joinN (l : List ByteArray) (sep : ByteArray) : Nat := sep.size * l.length + Lib.lens (dats l)
theorem lens_szT : ∀ l : List ByteArray, (Lib.lens (dats l) : Int) = szT l
  | [] => rfl
  | x :: r => by
    have := lens_szT r
    simp only [Lib.lens, dats, List.map_cons, List.sum_cons, szT] at this ⊢
    rw [← this]
    simp
theorem joinB_size (l : List ByteArray) (sep : ByteArray) : (joinB l sep).size ≤ joinN l sep := by
  unfold joinB joinN
  rw [ofL_size]
  cases l with
  | nil => simp [dats, Lib.join_nil]
  | cons x r =>
    rw [show dats (x :: r) = x.data.toList :: dats r from rfl, Lib.join_length]
    have h1 : (dats r).length = r.length := by simp [dats]
    have h2 : sep.data.toList.length = sep.size := by simp
    rw [h1, h2, List.length_cons, Nat.mul_succ]
    omega
theorem spec_join_l (x : ByteArray) (r : List ByteArray) (sep : ByteArray) (hb : joinN (x :: r) sep ≤ 140737488355328) (hr : r.length ≤ 140737488355328) (d : Nat) : ∀ j : Nat, j + d = r.length →
    Ev (fun k => spec_Join.l0 k (x :: r) sep (ofL (x.data.toList ++ Lib.joinTail sep.data.toList ((dats r).take j))) ((j + 1 : Nat) : Int)) (joinB (x :: r) sep) := by
  have hdl : (dats r).length = r.length := by simp [dats]
  have hsl : sep.data.toList.length = sep.size := by simp
  have hxl : x.data.toList.length = x.size := by simp
  have hN : joinN (x :: r) sep = sep.size * (r.length + 1) + (x.size + Lib.lens (dats r)) := by
    unfold joinN
    simp [dats, Lib.lens]
  induction d with
  | zero =>
    intro j hj
    have h1 : ¬ ((j + 1 : Nat) : Int) < ((x :: r).length : Int) := by rw [List.length_cons]; omega
    refine Ev.succ ?_
    simp only [spec_Join.l0, h1, if_false]
    refine Ev.cast Ev.some ?_
    rw [List.take_of_length_le (by omega)]
    unfold joinB
    rw [show dats (x :: r) = x.data.toList :: dats r from rfl, Lib.join_cons]
  | succ d ih =>
    intro j hj
    have hlt : j < r.length := by omega
    have h1 : ((j + 1 : Nat) : Int) < ((x :: r).length : Int) := by rw [List.length_cons]; omega
    have h2 : ((j + 1 : Nat) : Int) > 0 := by omega
    have h2' : (0 : Int) ≤ ((j + 1 : Nat) : Int) := by omega
    have h3 : wrap64 (((j + 1 : Nat) : Int) + 1) = ((j + 1 + 1 : Nat) : Int) := by rw [wrap64_id (by omega) (by omega)]; omega
    have hg : rdOf ByteArray.empty (x :: r) ((j + 1 : Nat) : Int) = r[j] := by
      rw [rdOf_cast _ (show j + 1 < (x :: r).length by simpa using hlt)]
      rfl
    have hd : (dats r)[j]? = some r[j].data.toList := by
      unfold dats
      rw [List.getElem?_map, List.getElem?_eq_getElem hlt]
      rfl
    have hts := Lib.joinTail_take_succ sep.data.toList (dats r) j _ hd
    have hle := Lib.joinTail_take_le sep.data.toList (dats r) (j + 1)
    rw [Lib.joinTail_length sep.data.toList (dats r), hts, List.length_append, List.length_append, hsl, hdl] at hle
    have hrl : r[j].data.toList.length = r[j].size := by simp
    have e1 : ofL (x.data.toList ++ Lib.joinTail sep.data.toList ((dats r).take j)) ++ sep = ofL (x.data.toList ++ Lib.joinTail sep.data.toList ((dats r).take j) ++ sep.data.toList) := by
      rw [← ofL_data (ofL _ ++ sep)]; simp [ofL]
    have e2 : ∀ u : List UInt8, ofL u ++ r[j] = ofL (u ++ r[j].data.toList) := fun u => by
      rw [← ofL_data (ofL _ ++ r[j])]; simp [ofL]
    have hmul : sep.size * r.length ≤ sep.size * (r.length + 1) := Nat.mul_le_mul_left _ (by omega)
    refine Ev.succ ?_
    simp only [spec_Join.l0, h1, h2, h2', if_true, hg, h3, e1, e2, ofL_size, List.length_append, hxl, hsl]
    have b1 : x.size + (Lib.joinTail sep.data.toList (List.take j (dats r))).length + sep.size ≤ 9223372036854775807 := by omega
    have b2 : x.size + (Lib.joinTail sep.data.toList (List.take j (dats r))).length + sep.size + r[j].size ≤ 9223372036854775807 := by omega
    simp only [b1, b2, if_true]
    have h := ih (j + 1) (by omega)
    rw [hts] at h
    simpa only [List.append_assoc] using h
theorem spec_join (l : List ByteArray) (sep : ByteArray) (hb : joinN l sep ≤ 140737488355328) (hr : l.length ≤ 140737488355328) : Ev (fun k => spec_Join.f k l sep) (joinB l sep) := by
  unfold spec_Join.f
  cases l with
  | nil =>
    refine Ev.succ ?_
    simp only [spec_Join.l0, List.length_nil, show ¬ ((0 : Int) < ((0 : Nat) : Int)) by omega, if_false]
    exact Ev.some
  | cons x r =>
    have hxs : x.size ≤ 140737488355328 := by
      unfold joinN at hb
      simp [dats, Lib.lens] at hb
      omega
    have hg : rdOf ByteArray.empty (x :: r) 0 = x := rfl
    have he : (⟨#[]⟩ : ByteArray) ++ x = x := by
      rw [← ofL_data ((⟨#[]⟩ : ByteArray) ++ x)]
      conv => rhs; rw [← ofL_data x]
      simp [ofL]
    have h := spec_join_l x r sep hb (by simp at hr; omega) r.length 0 (by omega)
    refine Ev.succ ?_
    simp only [spec_Join.l0, show ((0 : Int) < ((x :: r).length : Int)) by rw [List.length_cons]; omega, show ¬ ((0 : Int) > 0) by omega, if_true, if_false, Int.le_refl, hg, he]
    rw [show wrap64 (0 + 1) = ((0 + 1 : Nat) : Int) from by rw [wrap64_id (by omega) (by omega)]; rfl]
    have hz : (⟨#[]⟩ : ByteArray).size + x.size ≤ 9223372036854775807 := by show 0 + x.size ≤ _; omega
    simp only [hz, if_true]
    simpa [Lib.joinTail, ofL_data] using h
theorem strings_join (l : List ByteArray) (sep : ByteArray) (hb : joinN l sep ≤ 140737488355328) (hr : l.length ≤ 140737488355328) : strings_Join.f l sep = some (joinB l sep) := by
  have h := joinB_size l sep
  unfold joinB at h
  rw [ofL_size] at h
  unfold strings_Join.f
  rw [if_pos ⟨Nat.le_trans h hb, hr⟩]
  rfl
end Go.Proofs.YtpmooegakomnbabDoor.Pure
/- What VerText comes to, of the reference and of the program. -/
namespace Go.Proofs.YtpmooegakomnbabDoor.Pure
open Go.RowKit Go.Proofs.YtpmooegakomnbabDoor.PGC Go.Proofs.YtpmooegakomnbabDoorW.PrintWords Go.Proofs.YtpmooegakomnbabDoorW.PrintLast Go.Proofs.YtpmooegakomnbabDoor.Aux

theorem decDigits_length : ∀ (m u : Nat), u < 10 ^ (m + 1) → (Lib.decDigits u).length ≤ m + 1
  | 0, u, h => by
    rw [Lib.decDigits, dif_pos (by simpa using h)]
    simp
  | m + 1, u, h => by
    by_cases h9 : u < 10
    · rw [Lib.decDigits, dif_pos h9]
      simp
    · have := decDigits_length m (u / 10) (by rw [Nat.pow_succ] at h; omega)
      rw [Lib.decDigits, dif_neg h9, List.length_append]
      simp only [List.length_cons, List.length_nil]
      omega
theorem numB_size {x : Int} (h : x ≤ 9223372036854775807) : (numB x).size ≤ 19 := by
  unfold numB
  rw [ofL_size]
  exact decDigits_length 18 _ (by omega)
def dot : ByteArray := ⟨#[46]⟩
def dash : ByteArray := ⟨#[45]⟩
theorem dot_size : (⟨#[46]⟩ : ByteArray).size = 1 := rfl
theorem dash_size : (⟨#[45]⟩ : ByteArray).size = 1 := rfl
theorem app_assoc (a b c : ByteArray) : a ++ b ++ c = a ++ (b ++ c) := by
  rw [← ofL_data (a ++ b ++ c), ← ofL_data (a ++ (b ++ c))]
  simp
def verCore (a b c : Int) : ByteArray := numB a ++ dot ++ numB b ++ dot ++ numB c
def verT (a b c : Int) (l : List ByteArray) : ByteArray := if verB a b c l = true then (if (l.length : Int) > 0 then verCore a b c ++ (dash ++ joinB l dot) else verCore a b c) else ⟨#[]⟩
theorem ver_parts {a b c : Int} {l : List ByteArray} (h : verB a b c l = true) : 0 ≤ a ∧ a ≤ 9999 ∧ 0 ≤ b ∧ b ≤ 9999 ∧ 0 ≤ c ∧ c ≤ 9999 ∧ l.length ≤ 3 := by
  unfold verB verEnd inB at h
  simp at h
  omega
theorem spec_vertext (a b c : Int) (l : List ByteArray) (hl : l.length ≤ 9223372036854775807) (hs : ∀ x ∈ l, x.size ≤ 9223372036854775807) (hN : joinN l dot ≤ 2199023255552) : Ev (fun k => spec_VerText.f k a b c l) (verT a b c l) := by
  unfold spec_VerText.f verT
  refine Ev.bind (spec_ver a b c l hl hs) ?_
  cases hv : verB a b c l with
  | false => simpa using Ev.some
  | true =>
    obtain ⟨a0, a1, b0, b1, c0, c1, l3⟩ := ver_parts hv
    have na := numB_size (x := a) (by omega)
    have nb := numB_size (x := b) (by omega)
    have nc := numB_size (x := c) (by omega)
    have hj := joinB_size l dot
    simp only [if_true]
    refine Ev.succ ?_
    simp only [spec_VerText.j0]
    refine Ev.bind (spec_num a (by omega)) ?_
    refine Ev.yes (by omega) ?_
    refine Ev.bind (spec_num b (by omega)) ?_
    refine Ev.yes (by simp only [ByteArray.size_append, dot_size]; omega) ?_
    refine Ev.yes (by simp only [ByteArray.size_append, dot_size]; omega) ?_
    refine Ev.bind (spec_num c (by omega)) ?_
    refine Ev.yes (by simp only [ByteArray.size_append, dot_size]; omega) ?_
    by_cases hp : (l.length : Int) > 0
    · simp only [hp, if_true]
      refine Ev.yes (by simp only [ByteArray.size_append, dot_size]; omega) ?_
      refine Ev.bind (spec_join l dot (by omega) (by omega)) ?_
      refine Ev.yes (by simp only [ByteArray.size_append, dot_size, dash_size]; omega) ?_
      exact Ev.cast Ev.some (by rw [app_assoc]; rfl)
    · simp only [hp, if_false]
      exact Ev.some
theorem impl_vertext (a b c : Int) (l : List ByteArray) (hl : l.length ≤ 9223372036854775807) (hs : ∀ x ∈ l, x.size ≤ 9223372036854775807) (hN : joinN l dot ≤ 2199023255552) : Ev (fun k => impl_VerText.f k a b c l) (verT a b c l) := by
  unfold impl_VerText.f verT
  refine Ev.bind (impl_ver a b c l hl hs) ?_
  cases hv : verB a b c l with
  | false => simpa using Ev.some
  | true =>
    obtain ⟨a0, a1, b0, b1, c0, c1, l3⟩ := ver_parts hv
    have na := numB_size (x := a) (by omega)
    have nb := numB_size (x := b) (by omega)
    have nc := numB_size (x := c) (by omega)
    have hj := joinB_size l dot
    simp only [if_true]
    refine Ev.succ ?_
    simp only [impl_VerText.j0, impl_num a (show a ≤ 9223372036854775807 by omega), impl_num b (show b ≤ 9223372036854775807 by omega), impl_num c (show c ≤ 9223372036854775807 by omega), Option.bind_some]
    refine Ev.yes (by omega) ?_
    refine Ev.yes (by simp only [ByteArray.size_append, dot_size]; omega) ?_
    refine Ev.yes (by simp only [ByteArray.size_append, dot_size]; omega) ?_
    refine Ev.yes (by simp only [ByteArray.size_append, dot_size]; omega) ?_
    by_cases hp : (l.length : Int) > 0
    · have hsj : strings_Join.f l (⟨#[46]⟩ : ByteArray) = some (joinB l dot) := strings_join l dot (by omega) (by omega)
      simp only [hp, if_true, hsj, Option.bind_some]
      refine Ev.yes (by omega) ?_
      refine Ev.yes (by simp only [ByteArray.size_append, dot_size, dash_size]; omega) ?_
      exact Ev.some
    · simp only [hp, if_false]
      exact Ev.some
end Go.Proofs.YtpmooegakomnbabDoor.Pure
/- What is split comes back joined; what a text is cut into at a byte. -/
namespace Go.Proofs.YtpmooegakomnbabDoor.Pure
open Go.RowKit Go.Proofs.YtpmooegakomnbabDoor.PGC Go.Proofs.YtpmooegakomnbabDoorW.PrintWords Go.Proofs.YtpmooegakomnbabDoorW.PrintLast Go.Proofs.YtpmooegakomnbabDoor.Aux

theorem join_two (x y : List UInt8) (r : List (List UInt8)) (sep : List UInt8) : Lib.join (x :: y :: r) sep = x ++ sep ++ Lib.join (y :: r) sep := by
  rw [Lib.join_cons, Lib.join_cons]
  simp [Lib.joinTail, List.append_assoc]
theorem join_glue (u : List UInt8) (sep : List UInt8) : ∀ l : List (List UInt8), Lib.join (glue u l) sep = u ++ Lib.join l sep
  | [] => by simp [glue, Lib.join_one, Lib.join_nil]
  | p :: ps => by rw [glue, Lib.join_cons, Lib.join_cons, List.append_assoc]
theorem join_split (c : UInt8) : ∀ l : List UInt8, Lib.join (Lib.split l [c]) [c] = l
  | [] => by rw [split_nil (by simp), Lib.join_one]
  | b :: l => by
    have ih := join_split c l
    by_cases h : b = c
    · subst h
      rw [split_one_at]
      cases hs : Lib.split l [b] with
      | nil => exact absurd hs (split_ne _ _)
      | cons y r =>
        rw [hs] at ih
        rw [join_two, ih]
        rfl
    · rw [split_one_by _ h, join_glue, ih]
      rfl
theorem dats_pieces (s sep : ByteArray) : dats (piecesB s sep) = Lib.split s.data.toList sep.data.toList := by
  unfold dats piecesB
  rw [List.map_map]
  conv => rhs; rw [← List.map_id (Lib.split s.data.toList sep.data.toList)]
  exact List.map_congr_left (fun x _ => data_ofL x)
theorem joinB_pieces (s : ByteArray) (c : UInt8) : joinB (piecesB s ⟨#[c]⟩) ⟨#[c]⟩ = s := by
  unfold joinB
  rw [dats_pieces, show (⟨#[c]⟩ : ByteArray).data.toList = [c] from rfl, join_split, ofL_data]
theorem joinN_size {l : List ByteArray} {sep : ByteArray} (h : l ≠ []) : joinN l sep = sep.size + (joinB l sep).size := by
  cases l with
  | nil => exact absurd rfl h
  | cons x r =>
    unfold joinN joinB
    rw [ofL_size, show dats (x :: r) = x.data.toList :: dats r from rfl, Lib.join_cons, List.length_append, Lib.joinTail_length]
    have h1 : (dats r).length = r.length := by simp [dats]
    have h2 : sep.data.toList.length = sep.size := by simp
    simp only [Lib.lens, List.map_cons, List.sum_cons, h1, h2, List.length_cons, Nat.mul_succ]
    omega
theorem pieces_ne (s sep : ByteArray) : piecesB s sep ≠ [] := by
  unfold piecesB
  simp [split_ne]
theorem joinN_pieces (s : ByteArray) (c : UInt8) : joinN (piecesB s ⟨#[c]⟩) ⟨#[c]⟩ = s.size + 1 := by
  rw [joinN_size (pieces_ne _ _), joinB_pieces, show (⟨#[c]⟩ : ByteArray).size = 1 from rfl]
  omega

/-- The first place of a byte; the text's length where there is none. -/
def at1 (c : UInt8) (l : List UInt8) : Nat := l.findIdx (· == c)
theorem at1_nil (c : UInt8) : at1 c [] = 0 := rfl
theorem at1_hit (c : UInt8) (l : List UInt8) : at1 c (c :: l) = 0 := by simp [at1, List.findIdx_cons]
theorem at1_miss {b c : UInt8} (h : ¬ b = c) (l : List UInt8) : at1 c (b :: l) = at1 c l + 1 := by
  unfold at1
  rw [List.findIdx_cons, show (b == c) = false from by simpa using h]
  rfl
theorem at1_le (c : UInt8) (l : List UInt8) : at1 c l ≤ l.length := List.findIdx_le_length
theorem index_one (c : UInt8) : ∀ l : List UInt8, Lib.index l [c] = if at1 c l < l.length then (at1 c l : Int) else -1
  | [] => rfl
  | b :: l => by
    have ih := index_one c l
    by_cases h : b = c
    · subst h
      rw [Lib.index, at1_hit]
      simp [List.isPrefixOf]
    · have hp : [c].isPrefixOf (b :: l) = false := by
        unfold List.isPrefixOf
        rw [show (c == b) = false from by simpa using fun e => h e.symm]
        rfl
      rw [Lib.index, hp, at1_miss h, ih, List.length_cons]
      simp only [Bool.false_eq_true, if_false]
      by_cases hl : at1 c l < l.length
      · have hq : ¬ ((at1 c l : Int) == -1) = true := fun e => by have := beq_iff_eq.1 e; omega
        simp only [hl, if_true, if_neg hq, show at1 c l + 1 < l.length + 1 by omega]
        omega
      · simp [hl]
def headB (c : UInt8) (s : ByteArray) : ByteArray := ofL (s.data.toList.take (at1 c s.data.toList))
def tailB (c : UInt8) (s : ByteArray) : ByteArray := ofL (s.data.toList.drop (at1 c s.data.toList + 1))
def hasB (c : UInt8) (s : ByteArray) : Bool := decide (at1 c s.data.toList < s.data.toList.length)
theorem headB_size (c : UInt8) (s : ByteArray) : (headB c s).size ≤ s.size := by
  unfold headB
  rw [ofL_size, List.length_take]
  have : s.data.toList.length = s.size := by simp
  omega
theorem tailB_size (c : UInt8) (s : ByteArray) : (tailB c s).size ≤ s.size := by
  unfold tailB
  rw [ofL_size, List.length_drop]
  have : s.data.toList.length = s.size := by simp
  omega
theorem at1_get (c : UInt8) : ∀ l : List UInt8, at1 c l < l.length → l = l.take (at1 c l) ++ c :: l.drop (at1 c l + 1)
  | [], h => absurd h (by simp)
  | b :: l, h => by
    by_cases e : b = c
    · subst e
      rw [at1_hit]
      rfl
    · rw [at1_miss e] at h ⊢
      have := at1_get c l (by simpa using h)
      simp only [List.take_succ_cons, List.drop_succ_cons, List.cons_append]
      exact congrArg (b :: ·) this
theorem head_has {c : UInt8} {s : ByteArray} (h : hasB c s = true) : headB c s ++ (⟨#[c]⟩ ++ tailB c s) = s := by
  have h1 := at1_get c s.data.toList (by simpa [hasB] using h)
  rw [← ofL_data (headB c s ++ (⟨#[c]⟩ ++ tailB c s))]
  conv => rhs; rw [← ofL_data s, h1]
  unfold headB tailB
  simp [ofL]
theorem head_not {c : UInt8} {s : ByteArray} (h : hasB c s = false) : headB c s = s := by
  have h1 : ¬ at1 c s.data.toList < s.data.toList.length := by simpa [hasB] using h
  unfold headB
  rw [List.take_of_length_le (by omega), ofL_data]
theorem cut_one (c : UInt8) (s : ByteArray) : Lib.cut s.data.toList [c] = if hasB c s = true then ((headB c s).data.toList, (tailB c s).data.toList, true) else (s.data.toList, [], false) := by
  unfold Lib.cut headB tailB hasB
  rw [index_one, data_ofL, data_ofL]
  by_cases h : at1 c s.data.toList < s.data.toList.length
  · simp only [h, if_true, decide_true, show (0 : Int) ≤ (at1 c s.data.toList : Int) by omega, Int.toNat_natCast, List.length_cons, List.length_nil]
  · simp only [h, if_false, decide_false, Bool.false_eq_true, show ¬ (0 : Int) ≤ -1 by omega]
end Go.Proofs.YtpmooegakomnbabDoor.Pure
/- What RangeText comes to, of the reference and of the program. -/
namespace Go.Proofs.YtpmooegakomnbabDoor.Pure
open Go.RowKit Go.Proofs.YtpmooegakomnbabDoor.PGC Go.Proofs.YtpmooegakomnbabDoorW.PrintWords Go.Proofs.YtpmooegakomnbabDoorW.PrintLast Go.Proofs.YtpmooegakomnbabDoor.Aux

/-- What the strings in a Cmp ask, and a little. -/
def stR (x : S68) : Prop := x.f1.f3.length ≤ 9223372036854775807 ∧ (∀ s ∈ x.f1.f3, s.size ≤ 9223372036854775807) ∧ joinN x.f1.f3 dot ≤ 2199023255552
def cmpT (x : S68) : ByteArray := impl_signOf.B x.f0 ++ verT x.f1.f0 x.f1.f1 x.f1.f2 x.f1.f3
def cmpP1 (x : S68) : List ByteArray := if inB x.f0 0 4 = true then [cmpT x] else []
def cmpsP (l : List S68) : List ByteArray := l.flatMap cmpP1
def sp1 : ByteArray := ⟨#[32]⟩
def or4 : ByteArray := ⟨#[32, 124, 124, 32]⟩
def rangeT (r : List (List S68)) : ByteArray := joinB (r.map fun l => joinB (cmpsP l) sp1) or4

theorem joinN_le (B : Nat) (sep : ByteArray) : ∀ (l : List ByteArray), (∀ x ∈ l, x.size ≤ B) → joinN l sep ≤ l.length * (sep.size + B)
  | [], _ => by simp [joinN, dats, Lib.lens]
  | x :: r, h => by
    have ih := joinN_le B sep r (fun y hy => h y (by simp [hy]))
    have hx := h x (by simp)
    have e : joinN (x :: r) sep = sep.size + x.size + joinN r sep := by
      unfold joinN
      simp [dats, Lib.lens, Nat.mul_succ]
      omega
    rw [e, List.length_cons, Nat.succ_mul]
    omega
theorem sign_size (c : Int) : (impl_signOf.B c).size ≤ 2 := by
  unfold impl_signOf.B
  split
  · decide
  split
  · decide
  split
  · decide
  split
  · decide
  split <;> decide
theorem verT_size (a b c : Int) (l : List ByteArray) : (verT a b c l).size ≤ 90 := by
  unfold verT
  split
  next hv =>
    obtain ⟨a0, a1, b0, b1, c0, c1, l3⟩ := ver_parts hv
    have na := numB_size (x := a) (by omega)
    have nb := numB_size (x := b) (by omega)
    have nc := numB_size (x := c) (by omega)
    have hc : (verCore a b c).size ≤ 59 := by
      unfold verCore
      simp only [ByteArray.size_append, show dot.size = 1 from rfl]
      omega
    have hq : ∀ x ∈ l, x.size ≤ 8 := by
      intro x hx
      unfold verB at hv
      simp only [Bool.and_eq_true, List.all_eq_true] at hv
      have := hv.1 x hx
      unfold preB preEnd inB at this
      simp at this
      omega
    have hj := joinB_size l dot
    have hN := joinN_le 8 dot l hq
    rw [show dot.size = 1 from rfl] at hN
    split
    · rw [ByteArray.size_append, ByteArray.size_append, show dash.size = 1 from rfl]
      omega
    · omega
  next => exact Nat.zero_le _
theorem cmpT_size (x : S68) : (cmpT x).size ≤ 92 := by
  have h1 := sign_size x.f0
  have h2 := verT_size x.f1.f0 x.f1.f1 x.f1.f2 x.f1.f3
  unfold cmpT
  rw [ByteArray.size_append]
  omega
theorem cmpP1_mem {x : S68} {t : ByteArray} (h : t ∈ cmpP1 x) : t.size ≤ 92 := by
  unfold cmpP1 at h
  split at h
  · rw [List.mem_singleton.1 h]; exact cmpT_size x
  · cases h
theorem cmpP1_length (x : S68) : (cmpP1 x).length ≤ 1 := by
  unfold cmpP1
  split <;> simp
theorem cmpsP_mem {l : List S68} : ∀ t ∈ cmpsP l, t.size ≤ 92 := by
  intro t ht
  obtain ⟨x, _, h⟩ := List.mem_flatMap.1 ht
  exact cmpP1_mem h
theorem cmpsP_length : ∀ l : List S68, (cmpsP l).length ≤ l.length
  | [] => Nat.le_refl _
  | x :: l => by
    have := cmpP1_length x
    have := cmpsP_length l
    show (cmpP1 x ++ cmpsP l).length ≤ _
    rw [List.length_append, List.length_cons]
    omega
theorem inner_N (l : List S68) : joinN (cmpsP l) sp1 ≤ l.length * 93 := by
  have h1 := joinN_le 92 sp1 (cmpsP l) cmpsP_mem
  have h2 := cmpsP_length l
  have h3 := Nat.mul_le_mul_right 93 h2
  rw [show sp1.size = 1 from rfl] at h1
  omega
/-- What stands behind n pieces. -/
def tlB (sep : ByteArray) : Nat → List ByteArray → ByteArray
  | _, [] => ⟨#[]⟩
  | 0, p :: ps => p ++ tlB sep 1 ps
  | _ + 1, p :: ps => sep ++ (p ++ tlB sep 1 ps)
theorem tlB_zero (sep p : ByteArray) (ps : List ByteArray) : tlB sep 0 (p :: ps) = p ++ tlB sep 1 ps := rfl
theorem tlB_succ (sep p : ByteArray) (n : Nat) (ps : List ByteArray) : tlB sep (n + 1) (p :: ps) = sep ++ (p ++ tlB sep 1 ps) := rfl
theorem tlB_one (sep : ByteArray) (n : Nat) (l : List ByteArray) : tlB sep (n + 1) l = tlB sep 1 l := by
  cases l <;> rfl
theorem app_nil (s : ByteArray) : s ++ (⟨#[]⟩ : ByteArray) = s := by
  rw [← ofL_data (s ++ _)]
  conv => rhs; rw [← ofL_data s]
  simp [ofL]
theorem nil_app (s : ByteArray) : (⟨#[]⟩ : ByteArray) ++ s = s := by
  rw [← ofL_data (_ ++ s)]
  conv => rhs; rw [← ofL_data s]
  simp [ofL]
theorem tlB_tail (sep : ByteArray) : ∀ l : List ByteArray, tlB sep 1 l = ofL (Lib.joinTail sep.data.toList (dats l))
  | [] => rfl
  | p :: ps => by
    rw [show tlB sep 1 (p :: ps) = sep ++ (p ++ tlB sep 1 ps) from rfl, tlB_tail sep ps]
    rw [← ofL_data (sep ++ _)]
    simp [ofL, Lib.joinTail, dats]
theorem tlB_join (sep : ByteArray) : ∀ l : List ByteArray, tlB sep 0 l = joinB l sep
  | [] => rfl
  | p :: ps => by
    rw [show tlB sep 0 (p :: ps) = p ++ tlB sep 1 ps from rfl, tlB_tail sep ps]
    unfold joinB
    rw [show dats (p :: ps) = p.data.toList :: dats ps from rfl, Lib.join_cons, ← ofL_data (p ++ _)]
    simp [ofL]

def signs : List ByteArray := [(⟨#[61]⟩ : ByteArray), (⟨#[60]⟩ : ByteArray), (⟨#[60, 61]⟩ : ByteArray), (⟨#[62]⟩ : ByteArray), (⟨#[62, 61]⟩ : ByteArray)]
theorem signs_rd {c : Int} (h : inB c 0 4 = true) : 0 ≤ c ∧ c < (signs.length : Int) ∧ rdOf ByteArray.empty signs c = impl_signOf.B c := by
  have h' : 0 ≤ c ∧ c ≤ 4 := by unfold inB at h; simpa using h
  obtain ⟨n, rfl⟩ : ∃ n : Nat, c = n := ⟨c.toNat, by omega⟩
  refine ⟨by omega, by show (n : Int) < 5; omega, ?_⟩
  match n, h' with
  | 0, _ => rfl
  | 1, _ => rfl
  | 2, _ => rfl
  | 3, _ => rfl
  | 4, _ => rfl
  | n + 5, h' => omega
theorem sign_out {c : Int} (h : inB c 0 4 = false) : impl_signOf.B c = ⟨#[]⟩ := by
  have h' : ¬ (0 ≤ c ∧ c ≤ 4) := by unfold inB at h; simp at h; omega
  unfold impl_signOf.B
  rw [if_neg (by omega), if_neg (by omega), if_neg (by omega), if_neg (by omega), if_neg (by omega)]
theorem sign_in {c : Int} (h : inB c 0 4 = true) : ¬ (impl_signOf.B c).toList = ([] : List UInt8) := by
  have h' : 0 ≤ c ∧ c ≤ 4 := by unfold inB at h; simpa using h
  rw [toList_data]
  unfold impl_signOf.B
  split
  · simp
  split
  · simp
  split
  · simp
  split
  · simp
  split
  · simp
  · omega

/-- One list of the reference's, from its place i on; 'R' is what follows it. -/
theorem spec_range_in (r : List (List S68)) (j : Nat) (hj : j < r.length) (hr : r.length ≤ 1048576) (hy : r[j].length ≤ 1048576) (hy' : ∀ x ∈ r[j], stR x) (T : ByteArray) (hT : T.size ≤ 1000000000000000) (R : ByteArray) (d : Nat) :
    ∀ (i n : Nat) (t : ByteArray), i + d = r[j].length → n ≤ i → t.size ≤ T.size + i * 93 → t ++ tlB sp1 n (cmpsP (r[j].drop i)) = T ++ joinB (cmpsP r[j]) sp1 →
    Ev (fun k => spec_RangeText.l0 k r signs (T ++ joinB (cmpsP r[j]) sp1) ((j + 1 : Nat) : Int)) R →
    Ev (fun k => spec_RangeText.l1 k r signs t (j : Int) (n : Int) (i : Int)) R := by
  have h2j : (0 : Int) ≤ (j : Int) := by omega
  have h1j : (j : Int) < (r.length : Int) := by omega
  have hgj : rd_L9 r (j : Int) = r[j] := rdD_cast _ hj
  have h3j := next_i hj (by omega)
  induction d with
  | zero =>
    intro i n t hi hn ht he hk
    have h1 : ¬ (i : Int) < (r[j].length : Int) := by omega
    rw [List.drop_eq_nil_of_le (by omega), show cmpsP ([] : List S68) = [] from rfl, show tlB sp1 n [] = ⟨#[]⟩ from by cases n <;> rfl, app_nil] at he
    subst he
    refine Ev.succ ?_
    simp only [spec_RangeText.l1, h1, h1j, h2j, h3j, hgj, if_true, if_false]
    exact hk
  | succ d ih =>
    intro i n t hi hn ht he hk
    have hlt : i < r[j].length := by omega
    have h1 : (i : Int) < (r[j].length : Int) := by omega
    have h2 : (0 : Int) ≤ (i : Int) := by omega
    have h3 := next_i hlt (by omega)
    have hg : rd_T68 r[j] (i : Int) = r[j][i] := rdD_cast _ hlt
    have hst := hy' _ (List.getElem_mem hlt)
    have hcs := cmpT_size r[j][i]
    have hss := sign_size r[j][i].f0
    have hvs := verT_size r[j][i].f1.f0 r[j][i].f1.f1 r[j][i].f1.f2 r[j][i].f1.f3
    have hcc : (cmpT r[j][i]).size = (impl_signOf.B r[j][i].f0).size + (verT r[j][i].f1.f0 r[j][i].f1.f1 r[j][i].f1.f2 r[j][i].f1.f3).size := by unfold cmpT; rw [ByteArray.size_append]
    have hi93 : i * 93 ≤ 1048576 * 93 := Nat.mul_le_mul_right 93 (by omega)
    have hi93' : (i + 1) * 93 = i * 93 + 93 := by rw [Nat.add_mul]
    rw [drop_get hlt, show cmpsP (r[j][i] :: r[j].drop (i + 1)) = cmpP1 r[j][i] ++ cmpsP (r[j].drop (i + 1)) from rfl] at he
    refine Ev.succ ?_
    simp only [spec_RangeText.l1, h1, h2, h1j, h2j, hgj, if_true]
    refine Ev.succ ?_
    simp only [spec_RangeText.j4, h1, h2, h3, h1j, h2j, hgj, hg, if_true, in_f, Option.bind_some]
    cases hb : inB r[j][i].f0 0 4 with
    | false =>
      simp only [Bool.false_eq_true, if_false]
      refine ih (i + 1) n t (by omega) (by omega) (by omega) ?_ hk
      rw [← he]
      unfold cmpP1
      rw [hb]
      rfl
    | true =>
      obtain ⟨s1, s2, s3⟩ := signs_rd hb
      have hp : cmpP1 r[j][i] = [cmpT r[j][i]] := by unfold cmpP1; rw [hb]; rfl
      rw [hp, List.singleton_append] at he
      simp only [if_true, s1, s2, s3]
      cases n with
      | zero =>
        refine Ev.no (by omega) ?_
        refine Ev.yes (by omega) ?_
        refine Ev.bind (spec_vertext _ _ _ _ hst.1 hst.2.1 hst.2.2) ?_
        refine Ev.yes (by rw [ByteArray.size_append]; omega) ?_
        rw [app_assoc]
        show Ev (fun k => spec_RangeText.l1 k r signs (t ++ cmpT r[j][i]) (j : Int) (wrap64 (((0 : Nat) : Int) + 1)) ((i + 1 : Nat) : Int)) R
        rw [show wrap64 (((0 : Nat) : Int) + 1) = ((1 : Nat) : Int) from by rw [wrap64_id (by omega) (by omega)]; rfl]
        refine ih (i + 1) 1 _ (by omega) (by omega) (by rw [ByteArray.size_append]; omega) ?_ hk
        rw [← he, app_assoc]
        rfl
      | succ n =>
        refine Ev.yes (by omega) ?_
        refine Ev.yes (by omega) ?_
        refine Ev.yes (by rw [ByteArray.size_append, show (⟨#[32]⟩ : ByteArray).size = 1 from rfl]; omega) ?_
        refine Ev.bind (spec_vertext _ _ _ _ hst.1 hst.2.1 hst.2.2) ?_
        refine Ev.yes (by rw [ByteArray.size_append, ByteArray.size_append, show (⟨#[32]⟩ : ByteArray).size = 1 from rfl]; omega) ?_
        rw [app_assoc (t ++ _)]
        show Ev (fun k => spec_RangeText.l1 k r signs (t ++ sp1 ++ cmpT r[j][i]) (j : Int) (wrap64 (((n + 1 : Nat) : Int) + 1)) ((i + 1 : Nat) : Int)) R
        rw [show wrap64 (((n + 1 : Nat) : Int) + 1) = ((n + 1 + 1 : Nat) : Int) from by rw [wrap64_id (by omega) (by omega)]; omega]
        refine ih (i + 1) (n + 1 + 1) _ (by omega) (by omega) (by rw [ByteArray.size_append, ByteArray.size_append, show sp1.size = 1 from rfl]; omega) ?_ hk
        rw [← he, tlB_one, app_assoc, app_assoc]
        rfl
theorem spec_range_l (r : List (List S68)) (hr : r.length ≤ 1048576) (hr' : ∀ y ∈ r, y.length ≤ 1048576 ∧ ∀ x ∈ y, stR x) (d : Nat) :
    ∀ (j : Nat) (t : ByteArray), j + d = r.length → t.size ≤ j * 97517572 → t ++ tlB or4 j ((r.drop j).map fun l => joinB (cmpsP l) sp1) = rangeT r →
    Ev (fun k => spec_RangeText.l0 k r signs t (j : Int)) (rangeT r) := by
  induction d with
  | zero =>
    intro j t hj ht he
    have h1 : ¬ (j : Int) < (r.length : Int) := by omega
    rw [List.drop_eq_nil_of_le (by omega), List.map_nil, show tlB or4 j [] = ⟨#[]⟩ from by cases j <;> rfl, app_nil] at he
    refine Ev.succ ?_
    simp only [spec_RangeText.l0, h1, if_false, he]
    exact Ev.some
  | succ d ih =>
    intro j t hj ht he
    have hlt : j < r.length := by omega
    have h1 : (j : Int) < (r.length : Int) := by omega
    have hst := hr' _ (List.getElem_mem hlt)
    have hjb : j * 97517572 ≤ 1048576 * 97517572 := Nat.mul_le_mul_right _ (by omega)
    have hjb' : (j + 1) * 97517572 = j * 97517572 + 97517572 := by rw [Nat.add_mul]
    have hN := inner_N r[j]
    have hNl : r[j].length * 93 ≤ 1048576 * 93 := Nat.mul_le_mul_right 93 hst.1
    have hS := joinB_size (cmpsP r[j]) sp1
    rw [drop_get hlt, List.map_cons] at he
    refine Ev.succ ?_
    simp only [spec_RangeText.l0, h1, if_true]
    refine Ev.succ ?_
    simp only [spec_RangeText.j1]
    have main : ∀ T : ByteArray, T.size ≤ j * 97517572 + 4 → T ++ (joinB (cmpsP r[j]) sp1 ++ tlB or4 1 ((r.drop (j + 1)).map fun l => joinB (cmpsP l) sp1)) = rangeT r →
        Ev (fun k => spec_RangeText.j2 k r signs T (j : Int)) (rangeT r) := by
      intro T hT hTe
      refine Ev.succ ?_
      simp only [spec_RangeText.j2]
      refine spec_range_in r j hlt hr hst.1 hst.2 T (by omega) _ r[j].length 0 0 T (by omega) (by omega) (by omega) (by rw [List.drop_zero, tlB_join]) ?_
      refine ih (j + 1) _ (by omega) (by rw [ByteArray.size_append]; omega) ?_
      rw [tlB_one, app_assoc]
      exact hTe
    cases j with
    | zero =>
      rw [tlB_zero] at he
      refine Ev.no (by omega) ?_
      exact main t (Nat.le_trans ht (Nat.le_add_right _ _)) he
    | succ j =>
      rw [tlB_succ] at he
      refine Ev.yes (by omega) (Ev.yes (by omega) ?_)
      refine main (t ++ or4) (by rw [ByteArray.size_append, show or4.size = 4 from rfl]; omega) ?_
      rw [← he, app_assoc]
theorem spec_range (r : List (List S68)) (hr : r.length ≤ 1048576) (hr' : ∀ y ∈ r, y.length ≤ 1048576 ∧ ∀ x ∈ y, stR x) : Ev (fun k => spec_RangeText.f k r) (rangeT r) := by
  unfold spec_RangeText.f
  refine spec_range_l r hr hr' r.length 0 (⟨#[]⟩ : ByteArray) (by omega) (by show 0 ≤ _; omega) ?_
  rw [nil_app, List.drop_zero, tlB_join]
  rfl

theorem impl_range_in (r : List (List S68)) (y : List S68) (hy : y.length ≤ 1048576) (hy' : ∀ x ∈ y, stR x) (xs : List ByteArray) (hx : xs.length ≤ 1048576) (j : Int) (m : Int) (R : ByteArray)
    (hk : Ev (fun k => impl_RangeText.l0 k (xs ++ [joinB (cmpsP y) sp1]) r m (wrap64 (j + 1))) R) (d : Nat) :
    ∀ (i : Nat) (u : List ByteArray), i + d = y.length → u.length ≤ i → u ++ cmpsP (y.drop i) = cmpsP y → Ev (fun k => impl_RangeText.l1 k xs u r m j y (y.length : Int) (i : Int)) R := by
  induction d with
  | zero =>
    intro i u hi hu he
    have h1 : ¬ (i : Int) < (y.length : Int) := by omega
    rw [List.drop_eq_nil_of_le (by omega), show cmpsP ([] : List S68) = [] from rfl, List.append_nil] at he
    subst he
    have hN := inner_N y
    have hNl : y.length * 93 ≤ 1048576 * 93 := Nat.mul_le_mul_right 93 hy
    have hL := cmpsP_length y
    have hsj : strings_Join.f (cmpsP y) (⟨#[32]⟩ : ByteArray) = some (joinB (cmpsP y) sp1) := strings_join _ sp1 (by omega) (by omega)
    refine Ev.succ ?_
    simp only [impl_RangeText.l1, h1, if_false, hsj, Option.bind_some, show xs.length < 8796093022208 by omega, if_true]
    exact hk
  | succ d ih =>
    intro i u hi hu he
    have hlt : i < y.length := by omega
    have h1 : (i : Int) < (y.length : Int) := by omega
    have h2 : (0 : Int) ≤ (i : Int) := by omega
    have h3 := next_i hlt (by omega)
    have hg : rd_T68 y (i : Int) = y[i] := rdD_cast _ hlt
    have hst := hy' _ (List.getElem_mem hlt)
    have hss := sign_size y[i].f0
    have hvs := verT_size y[i].f1.f0 y[i].f1.f1 y[i].f1.f2 y[i].f1.f3
    rw [drop_get hlt, show cmpsP (y[i] :: y.drop (i + 1)) = cmpP1 y[i] ++ cmpsP (y.drop (i + 1)) from rfl] at he
    refine Ev.succ ?_
    simp only [impl_RangeText.l1, h1, if_true]
    refine Ev.succ ?_
    simp only [impl_RangeText.j3, h1, h2, h3, hg, if_true, impl_signOf.f, Option.bind_some]
    cases hb : inB y[i].f0 0 4 with
    | false =>
      rw [sign_out hb]
      refine Ev.yes (by rw [toList_data]) ?_
      refine ih (i + 1) u (by omega) (by omega) ?_
      rw [← he]
      unfold cmpP1
      rw [hb]
      rfl
    | true =>
      refine Ev.no (sign_in hb) ?_
      refine Ev.bind (impl_vertext _ _ _ _ hst.1 hst.2.1 hst.2.2) ?_
      refine Ev.yes (by omega) (Ev.yes (by omega) ?_)
      refine ih (i + 1) _ (by omega) (by rw [List.length_append]; simp; omega) ?_
      rw [← he]
      unfold cmpP1
      rw [hb, if_pos rfl, List.append_assoc]
      rfl
theorem impl_range_l (r : List (List S68)) (hr : r.length ≤ 1048576) (hr' : ∀ y ∈ r, y.length ≤ 1048576 ∧ ∀ x ∈ y, stR x) (d : Nat) :
    ∀ (j : Nat) (u : List ByteArray), j + d = r.length → u.length = j → u ++ ((r.drop j).map fun l => joinB (cmpsP l) sp1) = (r.map fun l => joinB (cmpsP l) sp1) →
    Ev (fun k => impl_RangeText.l0 k u r (r.length : Int) (j : Int)) (rangeT r) := by
  induction d with
  | zero =>
    intro j u hj hu he
    have h1 : ¬ (j : Int) < (r.length : Int) := by omega
    rw [List.drop_eq_nil_of_le (by omega), List.map_nil, List.append_nil] at he
    subst he
    have hB := joinN_le 97517568 or4 (r.map fun l => joinB (cmpsP l) sp1) (fun x hx => by
      obtain ⟨l, hl, rfl⟩ := List.mem_map.1 hx
      have hN := inner_N l
      have hNl : l.length * 93 ≤ 1048576 * 93 := Nat.mul_le_mul_right 93 (hr' l hl).1
      have hS := joinB_size (cmpsP l) sp1
      omega)
    rw [List.length_map, show or4.size = 4 from rfl] at hB
    have hB2 : r.length * (4 + 97517568) ≤ 1048576 * (4 + 97517568) := Nat.mul_le_mul_right _ hr
    have hsj : strings_Join.f (r.map fun l => joinB (cmpsP l) sp1) (⟨#[32, 124, 124, 32]⟩ : ByteArray) = some (rangeT r) := strings_join _ or4 (by omega) (by rw [List.length_map]; omega)
    refine Ev.succ ?_
    simp only [impl_RangeText.l0, h1, if_false, hsj, Option.bind_some]
    exact Ev.some
  | succ d ih =>
    intro j u hj hu he
    have hlt : j < r.length := by omega
    have h1 : (j : Int) < (r.length : Int) := by omega
    have h2 : (0 : Int) ≤ (j : Int) := by omega
    have h3 := next_i hlt (by omega)
    have hst := hr' _ (List.getElem_mem hlt)
    have hgj : rd_L9 r (j : Int) = r[j] := rdD_cast _ hlt
    rw [drop_get hlt, List.map_cons] at he
    refine Ev.succ ?_
    simp only [impl_RangeText.l0, h1, if_true]
    refine Ev.succ ?_
    simp only [impl_RangeText.j1, h1, h2, hgj, if_true]
    refine impl_range_in r r[j] hst.1 hst.2 u (by omega) (j : Int) (r.length : Int) _ ?_ r[j].length 0 [] (by omega) (by simp) (by simp)
    rw [h3]
    refine ih (j + 1) _ (by omega) (by rw [List.length_append, hu]; rfl) ?_
    rw [← he]
    simp
theorem impl_range (r : List (List S68)) (hr : r.length ≤ 1048576) (hr' : ∀ y ∈ r, y.length ≤ 1048576 ∧ ∀ x ∈ y, stR x) : Ev (fun k => impl_RangeText.f k r) (rangeT r) := by
  unfold impl_RangeText.f
  exact impl_range_l r hr hr' r.length 0 [] (by omega) rfl (by simp)
end Go.Proofs.YtpmooegakomnbabDoor.Pure
