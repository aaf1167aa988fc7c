/- The law FnExactGetText holds for every row of bytes and every place: GetText of the program answers as the reference's, and leaves its argument as it was. No condition beyond the row's own. -/
import Derived.Test.YtcendeobgiphaaaGGetTextx1
import Derived.Test.YtcendeobgiphaaaAux
set_option linter.unusedVariables false
set_option linter.unusedSimpArgs false
namespace Go.Proofs.Ytcendeobgiphaaa.Pure
open Go.RowKit Go.Proofs.Ytcendeobgiphaaa.PFnExactGetText Go.Proofs.YtcendeobgiphaaaW.PrintWords Go.Proofs.YtcendeobgiphaaaW.PrintLast Go.Proofs.Ytcendeobgiphaaa.Aux

theorem to_bytes_l (l : List Int) (hl : l.length ≤ 140737488351232) (d : Nat) : ∀ (i : Nat) (x : List Int), i + d = l.length → x.length = l.length → x.take i = l.take i →
    Ev (fun k => laws_toByteS.l0 k l x (i : Int)) l := by
  induction d with
  | zero =>
    intro i x hi hx he
    have h1 : ¬ (i : Int) < (l.length : Int) := by omega
    have e : x = l := by rwa [List.take_of_length_le (by omega), List.take_of_length_le (by omega)] at he
    refine Ev.succ ?_
    simp only [laws_toByteS.l0, h1, if_false, e]
    exact Ev.some
  | succ d ih =>
    intro i x hi hx he
    have h1 : (i : Int) < (l.length : Int) := by omega
    have h1x : (i : Int) < (x.length : Int) := by omega
    have h2 : (0 : Int) ≤ (i : Int) := by omega
    have h3 : wrap64 ((i : Int) + 1) = ((i + 1 : Nat) : Int) := by rw [wrap64_id (by omega) (by omega)]; rfl
    refine Ev.succ ?_
    simp only [laws_toByteS.l0, h1, h1x, h2, h3, if_true, Int.toNat_natCast]
    refine ih (i + 1) _ (by omega) (by simpa using hx) ?_
    rw [rd_cast (by omega)]
    apply List.ext_getElem?
    intro j
    have hj : (x.take i)[j]? = (l.take i)[j]? := by rw [he]
    simp only [List.getElem?_take, List.getElem?_set] at hj ⊢
    by_cases hji : j = i
    · subst hji
      simp [List.getElem?_eq_getElem (show j < l.length by omega), show j < x.length by omega]
    · by_cases hlt : j < i
      · simpa [hlt, show j < i + 1 by omega, show i ≠ j by omega] using hj
      · simp [show ¬ j < i + 1 by omega]

theorem to_bytes (l : List Int) (hl : l.length ≤ 140737488351232) : Ev (fun k => laws_toByteS.f k l) l := by
  unfold laws_toByteS.f
  simp only [show (0 : Int) ≤ (l.length : Int) by omega, show (l.length : Int).toNat ≤ 281474976710656 by omega, if_true]
  exact to_bytes_l l hl l.length 0 _ (by omega) (by simp) (by simp)

theorem eq_bytes_l (l : List Int) (hl : l.length ≤ 140737488351232) (d : Nat) : ∀ i : Nat, i + d = l.length →
    Ev (fun k => laws_eqByteS.l0 k l l (i : Int)) true := by
  induction d with
  | zero =>
    intro i hi
    have h1 : ¬ (i : Int) < (l.length : Int) := by omega
    refine Ev.succ ?_
    simp only [laws_eqByteS.l0, h1, if_false]
    exact Ev.some
  | succ d ih =>
    intro i hi
    have h1 : (i : Int) < (l.length : Int) := by omega
    have h2 : (0 : Int) ≤ (i : Int) := by omega
    have h3 : wrap64 ((i : Int) + 1) = ((i + 1 : Nat) : Int) := by rw [wrap64_id (by omega) (by omega)]; rfl
    refine Ev.succ ?_
    simp only [laws_eqByteS.l0, h1, h2, h3, if_true]
    exact ih (i + 1) (by omega)

theorem eq_bytes (l : List Int) (hl : l.length ≤ 140737488351232) : Ev (fun k => laws_eqByteS.f k l l) true := by
  unfold laws_eqByteS.f
  simp only [if_true]
  exact eq_bytes_l l hl l.length 0 (by omega)

def noText : ByteArray × Int × Bool := ((⟨#[]⟩ : ByteArray), 0, false)

def getM (l : List Int) (a : Int) : ByteArray × Int × Bool :=
  if 0 ≤ a ∧ a + 2 ≤ l.length then
    if rd l a * 256 + rd l (a + 1) > 60000 ∨ rd l a * 256 + rd l (a + 1) > l.length - a - 2 then noText
    else (strOfNums ((l.take (a + 2 + (rd l a * 256 + rd l (a + 1))).toNat).drop (a + 2).toNat), a + 2 + (rd l a * 256 + rd l (a + 1)), true)
  else noText

theorem or_bytes {x y : Int} (h0 : 0 ≤ x) (h1 : x ≤ 255) (h2 : 0 ≤ y) (h3 : y ≤ 255) :
    Go.bits .or .i64 (wrap64 ((wrap64 x) * 256)) (wrap64 y) = x * 256 + y := by
  rw [wrap64_id (i := x) (by omega) (by omega), wrap64_id (i := y) (by omega) (by omega), wrap64_id (by omega) (by omega)]
  refine Go.bits_join .i64 62 (by decide) (fun n h0 h1 => ?_) 8 (x * 256) y (by omega) (by omega) (by omega) h2 (by omega) (by omega)
  rw [Go.IntKind.wrap_i64]
  omega

theorem rd_byte {l : List Int} (hb : ∀ x ∈ l, (Lit.int .u8 x).wf = true) (i : Int) : 0 ≤ rd l i ∧ rd l i ≤ 255 := by
  unfold rd
  rw [List.getD_eq_getElem?_getD]
  cases h : l[i.toNat]? with
  | none => simp
  | some x => exact wf_u8 (hb x (List.mem_of_getElem? h))

theorem spec_get (l : List Int) (a : Int) (hl : l.length ≤ 140737488351232) (hb : ∀ x ∈ l, (Lit.int .u8 x).wf = true) (ha : (Lit.int .i64 a).wf = true) :
    spec_GetText.f l a = some (getM l a) := by
  have ha' := wf_i64 ha
  have hx := rd_byte hb a
  unfold spec_GetText.f spec_l1In.f
  rw [wrap64_id (i := (l.length : Int) - 2) (by omega) (by omega)]
  by_cases h0 : 0 ≤ a
  · by_cases h1 : a ≤ (l.length : Int) - 2
    · have w1 : wrap64 (a + 1) = a + 1 := wrap64_id (by omega) (by omega)
      have hy := rd_byte hb (a + 1)
      have w2 : wrap64 (a + 2) = a + 2 := wrap64_id (by omega) (by omega)
      have w3 : wrap64 (wrap64 ((l.length : Int) - a) - 2) = l.length - a - 2 := by rw [wrap64_id (i := (l.length : Int) - a) (by omega) (by omega), wrap64_id (by omega) (by omega)]
      simp only [w1, w2, w3, or_bytes hx.1 hx.2 hy.1 hy.2]
      simp only [show a ≥ 0 from h0, h1, h0, if_true, decide_true, Option.bind_some, show a < (l.length : Int) by omega, show (0 : Int) ≤ a + 1 by omega, show a + 1 < (l.length : Int) by omega, show (0 : Int) ≤ a + 2 by omega]
      unfold getM
      rw [if_pos (show 0 ≤ a ∧ a + 2 ≤ (l.length : Int) by omega)]
      generalize hn : rd l a * 256 + rd l (a + 1) = n
      by_cases h2 : n > l.length - a - 2
      · simp [h2, noText]
      · by_cases h3 : n > 60000
        · simp [h2, h3, noText]
        · have w4 : wrap64 (a + 2 + n) = a + 2 + n := wrap64_id (by omega) (by omega)
          simp only [h2, h3, if_false, w4, show a + 2 ≤ a + 2 + n by omega, show a + 2 + n ≤ (l.length : Int) by omega, if_true, or_self]
    · simp [h0, h1, getM, noText, show ¬ (a + 2 ≤ (l.length : Int)) by omega]
  · simp [h0, getM, noText]

theorem impl_get (l : List Int) (a : Int) (hl : l.length ≤ 140737488351232) (hb : ∀ x ∈ l, (Lit.int .u8 x).wf = true) (ha : (Lit.int .i64 a).wf = true) :
    Ev (fun k => impl_GetText.f k l a) (getM l a) := by
  have ha' := wf_i64 ha
  have hx := rd_byte hb a
  unfold impl_GetText.f
  rw [wrap64_id (i := (l.length : Int) - 2) (by omega) (by omega)]
  by_cases h0 : 0 ≤ a
  · simp only [show ¬ a < 0 by omega, if_false]
    refine Ev.succ ?_
    by_cases h1 : a ≤ (l.length : Int) - 2
    · have w1 : wrap64 (a + 1) = a + 1 := wrap64_id (by omega) (by omega)
      have hy := rd_byte hb (a + 1)
      have w2 : wrap64 (a + 2) = a + 2 := wrap64_id (by omega) (by omega)
      have w3 : wrap64 ((l.length : Int) - (a + 2)) = l.length - a - 2 := by rw [wrap64_id (by omega) (by omega)]; omega
      simp only [impl_GetText.j0, w1, w2, w3, or_bytes hx.1 hx.2 hy.1 hy.2]
      simp only [show ¬ a > (l.length : Int) - 2 by omega, decide_false, Bool.false_eq_true, if_false, h0, if_true, show a < (l.length : Int) by omega, show (0 : Int) ≤ a + 1 by omega, show a + 1 < (l.length : Int) by omega, show (0 : Int) ≤ a + 2 by omega]
      unfold getM
      rw [if_pos (show 0 ≤ a ∧ a + 2 ≤ (l.length : Int) by omega)]
      generalize hn : rd l a * 256 + rd l (a + 1) = n
      by_cases h3 : n > 60000
      · simp only [h3, if_true, true_or]
        exact Ev.some
      · by_cases h2 : n > l.length - a - 2
        · simp only [h2, h3, if_true, if_false, or_true]
          exact Ev.some
        · have w4 : wrap64 (a + 2 + n) = a + 2 + n := wrap64_id (by omega) (by omega)
          simp only [h2, h3, if_false, w4, show a + 2 ≤ a + 2 + n by omega, show a + 2 + n ≤ (l.length : Int) by omega, if_true, or_self]
          exact Ev.some
    · simp only [impl_GetText.j0, show a > (l.length : Int) - 2 by omega, decide_true, if_true, getM, show ¬ (0 ≤ a ∧ a + 2 ≤ (l.length : Int)) by omega, if_false]
      exact Ev.some
  · simp only [show a < 0 by omega, if_true]
    refine Ev.succ ?_
    simp only [impl_GetText.j0, if_true, getM, show ¬ (0 ≤ a ∧ a + 2 ≤ (l.length : Int)) by omega, if_false]
    exact Ev.some

theorem FnExactGetText : laws_FnExactGetText.Pure := by
  intro l a hl hs hb ha
  refine Ev.get ?_
  have hs' : l.length ≤ 140737488351232 := by omega
  have ht := to_bytes l hs'
  unfold laws_FnExactGetText.f
  refine Ev.cond (fun _ => Ev.some) fun _ => ?_
  refine Ev.bind ht (Ev.bind (Ev.const (spec_get l a hs' hb ha)) (Ev.bind ht (Ev.bind (impl_get l a hs' hb ha) ?_)))
  simp only [if_true, bne_self_eq_false]
  refine Ev.succ ?_
  simp only [laws_FnExactGetText.j0, Bool.false_eq_true, if_false]
  refine Ev.bind ht (Ev.bind (eq_bytes l hs') ?_)
  simp only [if_true]
  exact Ev.some

end Go.Proofs.Ytcendeobgiphaaa.Pure
