/- What LessVer comes to, of the reference and of the program: the order of versions. -/
import Derived.Test.YtfbbagddhfeefaaZGCMine
import Derived.Test.YtfbbagddhfeefaaZGCGCPureDigits
import Derived.Test.YtfbbagddhfeefaaZGCPGCx5
import Derived.Test.YtfbbagddhfeefaaZGCPGCx10
set_option linter.unusedVariables false
set_option linter.unusedSimpArgs false
namespace Go.Proofs.Ytfbbagddhfeefaa.Pure
open Go.RowKit Go.Proofs.Ytfbbagddhfeefaa.PGC Go.Proofs.YtfbbagddhfeefaaW.PrintWords Go.Proofs.YtfbbagddhfeefaaW.PrintLast Go.Proofs.Ytfbbagddhfeefaa.Aux

def ltB (a b : ByteArray) : Bool := Op.bytesLess a.toList b.toList
theorem ltB_turned (a b : ByteArray) : ltB b a = !(ltB a b || decide (a = b)) := by
  unfold ltB
  rw [Mine.less_turned]
  congr 2
  by_cases h : a = b
  · subst h; simp
  · have : ¬ a.toList = b.toList := fun e => h (toList_inj.1 e)
    simp [h, this]
theorem ltB_self (a : ByteArray) : ltB a a = false := by
  have h := ltB_turned a a
  cases hq : ltB a a with
  | false => rfl
  | true => rw [hq] at h; simp at h

def cmpI (a b : Int) : Int := if a < b then -1 else if a > b then 1 else 0
def cmpS (a b : ByteArray) : Int := if ltB a b = true then -1 else if ltB b a = true then 1 else 0
theorem cmpS_zero (a b : ByteArray) : cmpS a b = 0 ↔ a = b := by
  unfold cmpS
  rw [ltB_turned a b]
  constructor
  · intro h
    cases hq : ltB a b with
    | true => rw [hq] at h; simp at h
    | false =>
      rw [hq] at h
      by_cases e : a = b
      · exact e
      · simp [e] at h
  · rintro rfl
    simp [ltB_self]
theorem cmpS_neg (a b : ByteArray) : decide (cmpS a b < 0) = ltB a b := by
  unfold cmpS
  cases ltB a b with
  | true => simp
  | false => cases ltB b a <;> simp

theorem cmpInt (a b : Int) : Ev (fun k => cmp_Compare_int.f k a b) (cmpI a b) := by
  unfold cmp_Compare_int.f
  simp only [cmp_isNaN_int.f, Option.bind_some, bne_self_eq_false, Bool.false_eq_true, if_false]
  refine Ev.succ ?_
  simp only [cmp_Compare_int.j0, Bool.false_eq_true, if_false]
  refine Ev.succ ?_
  simp only [cmp_Compare_int.j1]
  unfold cmpI
  by_cases h : a < b
  · simp only [h, if_true]
    exact Ev.some
  · by_cases h' : a > b
    · simp only [h, h', if_true, if_false]
      exact Ev.some
    · simp only [h, h', if_false]
      exact Ev.some
theorem cmpStr (a b : ByteArray) : Ev (fun k => cmp_Compare_string.f k a b) (cmpS a b) := by
  unfold cmp_Compare_string.f
  simp only [cmp_isNaN_string.f, Option.bind_some, bne_self_eq_false, Bool.false_eq_true, if_false]
  refine Ev.succ ?_
  simp only [cmp_Compare_string.j0, Bool.false_eq_true, if_false]
  refine Ev.succ ?_
  simp only [cmp_Compare_string.j1]
  unfold cmpS ltB
  cases h : Op.bytesLess a.toList b.toList with
  | true =>
    simp only [if_true]
    exact Ev.some
  | false =>
    cases h' : Op.bytesLess b.toList a.toList with
    | true =>
      simp only [Bool.false_eq_true, if_true, if_false]
      exact Ev.some
    | false =>
      simp only [Bool.false_eq_true, if_false]
      exact Ev.some

def orI : List Int → Int
  | [] => 0
  | x :: r => if x = 0 then orI r else x
theorem cmpOr_l (l : List Int) (hl : l.length ≤ 9223372036854775807) (d : Nat) : ∀ i : Nat, i + d = l.length → Ev (fun k => cmp_Or_int.l0 k 0 l (l.length : Int) (i : Int)) (orI (l.drop i)) := by
  induction d with
  | zero =>
    intro i hi
    have h1 : ¬ (i : Int) < (l.length : Int) := by omega
    refine Ev.succ ?_
    simp only [cmp_Or_int.l0, h1, if_false, List.drop_eq_nil_of_le (show l.length ≤ i by omega), orI]
    exact Ev.some
  | succ d ih =>
    intro i hi
    have hlt : i < l.length := by omega
    have h1 : (i : Int) < (l.length : Int) := by omega
    have h2 : (0 : Int) ≤ (i : Int) := by omega
    have h3 := next_i hlt hl
    refine Ev.succ ?_
    rw [drop_get hlt]
    simp only [cmp_Or_int.l0, h1, h2, h3, if_true, rd_cast hlt, orI]
    by_cases h : l[i] = 0
    · simp only [h, if_true]
      exact ih (i + 1) (by omega)
    · simp only [h, if_false]
      exact Ev.some
theorem cmpOr (l : List Int) (hl : l.length ≤ 9223372036854775807) : Ev (fun k => cmp_Or_int.f k l) (orI l) := cmpOr_l l hl l.length 0 (by omega)

def cmpW (a b : ByteArray) : Int :=
  if digitsB a = true then if digitsB b = true then orI [cmpI (a.size : Int) (b.size : Int), cmpS a b] else -1
  else if digitsB b = true then 1 else cmpS a b

theorem nil_size (s : ByteArray) : s.toList = ([] : List UInt8) ↔ s.size = 0 := by
  rw [toList_data]
  constructor
  · intro h
    have := congrArg List.length h
    simpa using this
  · intro h
    apply List.eq_nil_of_length_eq_zero
    simpa using h
theorem digits_nil (s : ByteArray) (h : s.size = 0) : digitsB s = true := by
  unfold digitsB bs
  have : s.data.toList = [] := by
    apply List.eq_nil_of_length_eq_zero
    simpa using h
  rw [this]
  rfl

theorem words_j (a b : ByteArray) : Ev (fun k => impl_compareWords.j0 k a b (digitsB a) (digitsB b)) (cmpW a b) := by
  refine Ev.succ ?_
  unfold cmpW
  cases ha : digitsB a with
  | true =>
    simp only [impl_compareWords.j0, if_true]
    refine Ev.succ ?_
    cases hb : digitsB b with
    | true =>
      simp only [impl_compareWords.j1, if_true]
      exact Ev.bind (cmpInt _ _) (Ev.bind (cmpStr _ _) (Ev.bind (cmpOr _ (by simp)) Ev.some))
    | false =>
      simp only [impl_compareWords.j1, if_true, Bool.false_eq_true, if_false]
      exact Ev.some
  | false =>
    simp only [impl_compareWords.j0, Bool.false_eq_true, if_false]
    refine Ev.succ ?_
    cases hb : digitsB b with
    | true =>
      simp only [impl_compareWords.j1, if_true, Bool.false_eq_true, if_false]
      exact Ev.some
    | false =>
      simp only [impl_compareWords.j1, Bool.false_eq_true, if_false]
      exact Ev.bind (cmpStr _ _) Ev.some
theorem words (a b : ByteArray) (ha : a.size ≤ 9223372036854775807) (hb : b.size ≤ 9223372036854775807) : Ev (fun k => impl_compareWords.f k a b) (cmpW a b) := by
  unfold impl_compareWords.f
  have fa := impl_figures a ha
  have fb := impl_figures b hb
  have hj := words_j a b
  simp only [nil_size]
  by_cases ea : a.size = 0
  · simp only [ea, if_true]
    rw [digits_nil a ea] at hj
    by_cases eb : b.size = 0
    · simp only [eb, if_true]
      rw [digits_nil b eb] at hj
      exact hj
    · simp only [eb, if_false]
      refine Ev.bind fb ?_
      simpa [eb] using hj
  · simp only [ea, if_false]
    refine Ev.bind fa ?_
    by_cases eb : b.size = 0
    · simp only [eb, if_true]
      rw [digits_nil b eb] at hj
      simpa [ea] using hj
    · simp only [eb, if_false]
      refine Ev.bind fb ?_
      simpa [ea, eb] using hj

def cmpWs : List ByteArray → List ByteArray → Int
  | [], [] => 0
  | [], _ :: _ => -1
  | _ :: _, [] => 1
  | x :: a, y :: b => if cmpW x y = 0 then cmpWs a b else cmpW x y
theorem compareFunc_l (a b : List ByteArray) (hl : a.length ≤ 9223372036854775807) (hs : ∀ x ∈ a, x.size ≤ 9223372036854775807) (hs' : ∀ x ∈ b, x.size ≤ 9223372036854775807) (d : Nat) : ∀ i : Nat, i + d = a.length → i ≤ b.length →
    Ev (fun k => slices_CompareFunc_string_string_string_string.l0 k a b a (a.length : Int) (i : Int)) (cmpWs (a.drop i) (b.drop i)) := by
  induction d with
  | zero =>
    intro i hi hb
    have h1 : ¬ (i : Int) < (a.length : Int) := by omega
    refine Ev.succ ?_
    simp only [slices_CompareFunc_string_string_string_string.l0, h1, if_false, List.drop_eq_nil_of_le (show a.length ≤ i by omega)]
    by_cases h : a.length < b.length
    · rw [drop_get (show i < b.length by omega)]
      simp only [show (a.length : Int) < (b.length : Int) by omega, if_true, cmpWs]
      exact Ev.some
    · rw [List.drop_eq_nil_of_le (show b.length ≤ i by omega)]
      simp only [show ¬ (a.length : Int) < (b.length : Int) by omega, if_false, cmpWs]
      exact Ev.some
  | succ d ih =>
    intro i hi hb
    have hlt : i < a.length := by omega
    have h1 : (i : Int) < (a.length : Int) := by omega
    have h2 : (0 : Int) ≤ (i : Int) := by omega
    have h3 := next_i hlt hl
    refine Ev.succ ?_
    simp only [slices_CompareFunc_string_string_string_string.l0, h1, if_true]
    refine Ev.succ ?_
    rw [drop_get hlt]
    by_cases h : i < b.length
    · rw [drop_get h]
      simp only [slices_CompareFunc_string_string_string_string.j1, h1, h2, h3, if_true, show ¬ (i : Int) ≥ (b.length : Int) by omega, if_false, show (i : Int) < (b.length : Int) by omega, rdOf_cast _ hlt, rdOf_cast _ h, cmpWs]
      refine Ev.bind (words _ _ (hs _ (List.getElem_mem hlt)) (hs' _ (List.getElem_mem h))) ?_
      by_cases hc : cmpW a[i] b[i] = 0
      · simp only [hc, if_true]
        exact ih (i + 1) (by omega) (by omega)
      · simp only [hc, if_false]
        exact Ev.some
    · rw [List.drop_eq_nil_of_le (show b.length ≤ i by omega)]
      simp only [slices_CompareFunc_string_string_string_string.j1, h1, h2, if_true, show (i : Int) ≥ (b.length : Int) by omega, cmpWs]
      exact Ev.some
theorem compareFunc (a b : List ByteArray) (hl : a.length ≤ 9223372036854775807) (hs : ∀ x ∈ a, x.size ≤ 9223372036854775807) (hs' : ∀ x ∈ b, x.size ≤ 9223372036854775807) :
    Ev (fun k => slices_CompareFunc_string_string_string_string.f k a b) (cmpWs a b) := compareFunc_l a b hl hs hs' a.length 0 (by omega) (by omega)

def cmpP (a b : List ByteArray) : Int :=
  if ((a.length : Int) == 0) != ((b.length : Int) == 0) then if (a.length : Int) > 0 then -1 else 1 else cmpWs a b
def cmpV (a b c : Int) (l : List ByteArray) (a' b' c' : Int) (l' : List ByteArray) : Int :=
  if orI [cmpI a a', cmpI b b', cmpI c c'] = 0 then cmpP l l' else orI [cmpI a a', cmpI b b', cmpI c c']
theorem compareVer (a b c : Int) (l : List ByteArray) (a' b' c' : Int) (l' : List ByteArray) (hl : l.length ≤ 9223372036854775807) (hs : ∀ x ∈ l, x.size ≤ 9223372036854775807) (hs' : ∀ x ∈ l', x.size ≤ 9223372036854775807) :
    Ev (fun k => impl_compareVer.f k a b c l a' b' c' l') (cmpV a b c l a' b' c' l') := by
  unfold impl_compareVer.f cmpV
  refine Ev.bind (cmpInt _ _) (Ev.bind (cmpInt _ _) (Ev.bind (cmpInt _ _) (Ev.bind (cmpOr _ (by simp)) ?_)))
  by_cases h : orI [cmpI a a', cmpI b b', cmpI c c'] = 0
  · simp only [h, if_true]
    refine Ev.succ ?_
    simp only [impl_compareVer.j0]
    unfold cmpP
    cases hq : (((l.length : Int) == 0) != ((l'.length : Int) == 0)) with
    | true =>
      simp only [if_true]
      by_cases h0 : (l.length : Int) > 0
      · simp only [h0, if_true]
        exact Ev.some
      · simp only [h0, if_false]
        exact Ev.some
    | false =>
      simp only [Bool.false_eq_true, if_false]
      exact Ev.bind (compareFunc _ _ hl hs hs') Ev.some
  · simp only [h, if_false]
    exact Ev.some

/-! The reference's. -/
def lessW (a b : ByteArray) : Bool :=
  if digitsB a = true ∧ digitsB b = true then if a.size = b.size then ltB a b else decide (a.size < b.size)
  else if (digitsB a != digitsB b) = true then digitsB a else ltB a b
theorem spec_lessPart (a b : ByteArray) (ha : a.size ≤ 9223372036854775807) (hb : b.size ≤ 9223372036854775807) : Ev (fun k => spec_l3LessPart.f k a b) (lessW a b) := by
  unfold spec_l3LessPart.f
  refine Ev.bind (spec_digits a ha) (Ev.bind (spec_digits b hb) ?_)
  unfold lessW
  cases da : digitsB a with
  | true =>
    simp only [if_true]
    refine Ev.succ ?_
    cases db : digitsB b with
    | true =>
      simp only [spec_l3LessPart.j0, if_true, and_self]
      by_cases h : a.size = b.size
      · simp only [h, if_true]
        exact Ev.some
      · simp only [show ¬ (a.size : Int) = (b.size : Int) by omega, h, if_false]
        refine Ev.cast Ev.some ?_
        rw [decide_eq_decide]
        omega
    | false =>
      simp only [spec_l3LessPart.j0, Bool.false_eq_true, if_false, and_false]
      exact Ev.some
  | false =>
    simp only [Bool.false_eq_true, if_false, false_and]
    refine Ev.succ ?_
    cases db : digitsB b with
    | true =>
      simp only [spec_l3LessPart.j0, Bool.false_eq_true, if_false]
      exact Ev.some
    | false =>
      simp only [spec_l3LessPart.j0, Bool.false_eq_true, if_false]
      exact Ev.some

def lessWs : List ByteArray → List ByteArray → Bool
  | [], [] => false
  | [], _ :: _ => true
  | _ :: _, [] => false
  | x :: a, y :: b => if x = y then lessWs a b else lessW x y
theorem spec_lessPre_l (a b : List ByteArray) (hl : a.length ≤ 9223372036854775807) (hs : ∀ x ∈ a, x.size ≤ 9223372036854775807) (hs' : ∀ x ∈ b, x.size ≤ 9223372036854775807) (d : Nat) : ∀ i : Nat, i + d = a.length → i ≤ b.length →
    Ev (fun k => spec_l3LessPre.l0 k a b (i : Int)) (lessWs (a.drop i) (b.drop i)) := by
  induction d with
  | zero =>
    intro i hi hb
    have h1 : ¬ (i : Int) < (a.length : Int) := by omega
    refine Ev.succ ?_
    simp only [spec_l3LessPre.l0, h1, if_false, List.drop_eq_nil_of_le (show a.length ≤ i by omega)]
    refine Ev.succ ?_
    simp only [spec_l3LessPre.j3, Bool.false_eq_true, if_false]
    refine Ev.cast Ev.some ?_
    by_cases h : a.length < b.length
    · rw [drop_get (show i < b.length by omega)]
      simp [lessWs, h]
    · rw [List.drop_eq_nil_of_le (show b.length ≤ i by omega)]
      simp [lessWs, h]
  | succ d ih =>
    intro i hi hb
    have hlt : i < a.length := by omega
    have h1 : (i : Int) < (a.length : Int) := by omega
    have h2 : (0 : Int) ≤ (i : Int) := by omega
    have h3 := next_i hlt hl
    refine Ev.succ ?_
    simp only [spec_l3LessPre.l0, h1, if_true]
    refine Ev.succ ?_
    rw [drop_get hlt]
    by_cases h : i < b.length
    · rw [drop_get h]
      have h1' : (i : Int) < (b.length : Int) := by omega
      simp only [spec_l3LessPre.j3, h1, h1', h2, h3, decide_true, if_true, rdOf_cast _ hlt, rdOf_cast _ h, toList_inj, lessWs]
      by_cases hc : a[i] = b[i]
      · simp only [hc, if_true]
        exact ih (i + 1) (by omega) (by omega)
      · simp only [hc, if_false]
        exact Ev.bind (spec_lessPart _ _ (hs _ (List.getElem_mem hlt)) (hs' _ (List.getElem_mem h))) Ev.some
    · rw [List.drop_eq_nil_of_le (show b.length ≤ i by omega)]
      have h1' : ¬ (i : Int) < (b.length : Int) := by omega
      simp only [spec_l3LessPre.j3, h1', decide_false, Bool.false_eq_true, if_false, lessWs]
      refine Ev.cast Ev.some ?_
      simp
      omega
def lessP (a b : List ByteArray) : Bool :=
  if (a.length = 0 ∨ b.length = 0) then decide (a.length > 0 ∧ b.length = 0) else lessWs a b
theorem spec_lessPre (a b : List ByteArray) (hl : a.length ≤ 9223372036854775807) (hs : ∀ x ∈ a, x.size ≤ 9223372036854775807) (hs' : ∀ x ∈ b, x.size ≤ 9223372036854775807) :
    Ev (fun k => spec_l3LessPre.f k a b) (lessP a b) := by
  unfold spec_l3LessPre.f lessP
  by_cases h : a.length = 0
  · simp only [show (a.length : Int) = 0 by omega, if_true, h, true_or]
    refine Ev.succ ?_
    simp only [spec_l3LessPre.j0, if_true, h]
    refine Ev.cast Ev.some ?_
    simp
  · simp only [show ¬ (a.length : Int) = 0 by omega, if_false, h, false_or]
    refine Ev.succ ?_
    by_cases hb : b.length = 0
    · simp only [hb, if_true]
      simp only [spec_l3LessPre.j0, Int.ofNat_zero, beq_self_eq_true, if_true, show (a.length : Int) > 0 by omega, hb]
      refine Ev.cast Ev.some ?_
      simp
      omega
    · simp only [hb, if_false, show ((b.length : Int) == 0) = false by simpa using hb]
      simp only [spec_l3LessPre.j0, Bool.false_eq_true, if_false]
      refine Ev.succ ?_
      simp only [spec_l3LessPre.j1]
      exact spec_lessPre_l a b hl hs hs' a.length 0 (by omega) (by omega)
def lessV (a b c : Int) (l : List ByteArray) (a' b' c' : Int) (l' : List ByteArray) : Bool :=
  if a = a' then if b = b' then if c = c' then lessP l l' else decide (c < c') else decide (b < b') else decide (a < a')
theorem spec_less (a b c : Int) (l : List ByteArray) (a' b' c' : Int) (l' : List ByteArray) (hl : l.length ≤ 9223372036854775807) (hs : ∀ x ∈ l, x.size ≤ 9223372036854775807) (hs' : ∀ x ∈ l', x.size ≤ 9223372036854775807) :
    Ev (fun k => spec_LessVer.f k a b c l a' b' c' l') (lessV a b c l a' b' c' l') := by
  unfold spec_LessVer.f lessV
  by_cases h1 : a = a'
  · by_cases h2 : b = b'
    · by_cases h3 : c = c'
      · simp only [h1, h2, h3, if_true]
        exact Ev.bind (spec_lessPre _ _ hl hs hs') Ev.some
      · simp only [h1, h2, h3, if_true, if_false]
        exact Ev.some
    · simp only [h1, h2, if_true, if_false]
      exact Ev.some
  · simp only [h1, if_false]
    exact Ev.some

/-! Both are one. -/
theorem cmpW_zero (a b : ByteArray) : cmpW a b = 0 ↔ a = b := by
  unfold cmpW
  constructor
  · intro h
    cases ha : digitsB a <;> cases hb : digitsB b <;> simp only [ha, hb, if_true, Bool.false_eq_true, if_false] at h
    · exact (cmpS_zero a b).1 h
    · omega
    · omega
    · simp only [orI] at h
      by_cases hc : cmpI (a.size : Int) (b.size : Int) = 0
      · by_cases hs : cmpS a b = 0
        · exact (cmpS_zero a b).1 hs
        · simp [hc, hs] at h
      · simp [hc] at h
  · rintro rfl
    have h0 : cmpS a a = 0 := (cmpS_zero a a).2 rfl
    cases ha : digitsB a <;> simp [h0, orI, cmpI]
theorem cmpW_neg (a b : ByteArray) : decide (cmpW a b < 0) = lessW a b := by
  unfold cmpW lessW
  cases ha : digitsB a <;> cases hb : digitsB b <;> simp only [if_true, Bool.false_eq_true, if_false, and_self, and_false, false_and]
  · simpa using cmpS_neg a b
  · simp
  · simp
  · simp only [orI]
    by_cases hs : a.size = b.size
    · simp only [hs, if_true]
      have : cmpI (b.size : Int) (b.size : Int) = 0 := by simp [cmpI]
      simp only [this, if_true]
      by_cases h0 : cmpS a b = 0
      · simp only [h0, if_true]
        rw [(cmpS_zero a b).1 h0, ltB_self]
        rfl
      · simp only [h0, if_false]
        exact cmpS_neg a b
    · simp only [hs, if_false]
      unfold cmpI
      by_cases hlt : a.size < b.size
      · simp [hlt]
      · have : (b.size : Int) < (a.size : Int) := by omega
        have h2 : ¬ (a.size : Int) < (b.size : Int) := by omega
        simp [hlt, this]
theorem cmpWs_neg : ∀ (a b : List ByteArray), decide (cmpWs a b < 0) = lessWs a b
  | [], [] => by simp [cmpWs, lessWs]
  | [], _ :: _ => by simp [cmpWs, lessWs]
  | _ :: _, [] => by simp [cmpWs, lessWs]
  | x :: a, y :: b => by
    simp only [cmpWs, lessWs]
    by_cases h : x = y
    · subst h
      simp only [(cmpW_zero x x).2 rfl, if_true]
      exact cmpWs_neg a b
    · simp only [show ¬ cmpW x y = 0 from fun e => h ((cmpW_zero x y).1 e), h, if_false]
      exact cmpW_neg x y
theorem cmpP_neg (a b : List ByteArray) : decide (cmpP a b < 0) = lessP a b := by
  unfold cmpP lessP
  cases a with
  | nil =>
    cases b with
    | nil => simp [cmpWs]
    | cons y b => simp; omega
  | cons x a =>
    cases b with
    | nil => simp; omega
    | cons y b =>
      have e1 : (((x :: a).length : Int) == 0) = false := by rw [beq_eq_false_iff_ne, List.length_cons]; omega
      have e2 : (((y :: b).length : Int) == 0) = false := by rw [beq_eq_false_iff_ne, List.length_cons]; omega
      rw [e1, e2]
      simpa using cmpWs_neg (x :: a) (y :: b)
theorem cmpI_zero (a b : Int) : cmpI a b = 0 ↔ a = b := by unfold cmpI; split <;> (try split) <;> omega
theorem cmpI_neg (a b : Int) : cmpI a b < 0 ↔ a < b := by unfold cmpI; split <;> (try split) <;> omega
theorem cmpV_neg (a b c : Int) (l : List ByteArray) (a' b' c' : Int) (l' : List ByteArray) : decide (cmpV a b c l a' b' c' l' < 0) = lessV a b c l a' b' c' l' := by
  unfold cmpV lessV
  simp only [orI]
  by_cases h1 : a = a'
  · subst h1
    have ea := (cmpI_zero a a).2 rfl
    by_cases h2 : b = b'
    · subst h2
      have eb := (cmpI_zero b b).2 rfl
      by_cases h3 : c = c'
      · subst h3
        have ec := (cmpI_zero c c).2 rfl
        simp only [ea, eb, ec, if_true]
        exact cmpP_neg l l'
      · simp only [ea, eb, show ¬ cmpI c c' = 0 from fun e => h3 ((cmpI_zero c c').1 e), if_true, if_false, h3, cmpI_neg]
    · simp only [ea, show ¬ cmpI b b' = 0 from fun e => h2 ((cmpI_zero b b').1 e), if_true, if_false, h2, cmpI_neg]
  · simp only [show ¬ cmpI a a' = 0 from fun e => h1 ((cmpI_zero a a').1 e), if_false, h1, cmpI_neg]

end Go.Proofs.Ytfbbagddhfeefaa.Pure
