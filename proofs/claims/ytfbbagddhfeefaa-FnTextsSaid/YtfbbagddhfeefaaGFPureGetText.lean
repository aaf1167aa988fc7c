/- What GetText comes to, of the reference and of the program. -/
import Derived.Test.YtfbbagddhfeefaaGFPureChars
import Derived.Test.YtfbbagddhfeefaaPGFx3
set_option linter.unusedVariables false
set_option linter.unusedSimpArgs false
namespace Go.Proofs.Ytfbbagddhfeefaa.Pure
open Go.RowKit Go.Proofs.Ytfbbagddhfeefaa.PGF Go.Proofs.YtfbbagddhfeefaaW.PrintWords Go.Proofs.YtfbbagddhfeefaaW.PrintLast Go.Proofs.Ytfbbagddhfeefaa.Aux

def noText : ByteArray × Int × Bool := ((⟨#[]⟩ : ByteArray), 0, false)

def getM (l : List Int) (a : Int) : ByteArray × Int × Bool :=
  if 0 ≤ a ∧ a + 2 ≤ l.length then
    if rd l a * 256 + rd l (a + 1) > 60000 ∨ rd l a * 256 + rd l (a + 1) > l.length - a - 2 then noText
    else (strOfNums ((l.take (a + 2 + (rd l a * 256 + rd l (a + 1))).toNat).drop (a + 2).toNat), a + 2 + (rd l a * 256 + rd l (a + 1)), true)
  else noText

theorem or_bytes {x y : Int} (h0 : 0 ≤ x) (h1 : x ≤ 255) (h2 : 0 ≤ y) (h3 : y ≤ 255) :
    Go.bits .or .i64 (wrap64 ((wrap64 x) * 256)) (wrap64 y) = x * 256 + y := by
  rw [wrap64_id (i := x) (by omega) (by omega), wrap64_id (i := y) (by omega) (by omega), wrap64_id (by omega) (by omega)]
  refine Go.bits_join .i64 62 (by decide) (fun n h0 h1 => ?_) 8 (x * 256) y (by omega) (by omega) (by omega) h2 (by omega) (by omega)
  rw [Go.IntKind.wrap_i64]
  omega

theorem rd_byte {l : List Int} (hb : ∀ x ∈ l, (Lit.int .u8 x).wf = true) (i : Int) : 0 ≤ rd l i ∧ rd l i ≤ 255 := by
  unfold rd
  rw [List.getD_eq_getElem?_getD]
  cases h : l[i.toNat]? with
  | none => simp
  | some x => exact wf_u8 (hb x (List.mem_of_getElem? h))

theorem impl_get (l : List Int) (a : Int) (hl : l.length ≤ 140737488351232) (hb : ∀ x ∈ l, (Lit.int .u8 x).wf = true) (ha : (Lit.int .i64 a).wf = true) :
    Ev (fun k => impl_GetText.f k l a) (getM l a) := by
  have ha' := wf_i64 ha
  have hx := rd_byte hb a
  unfold impl_GetText.f
  rw [wrap64_id (i := (l.length : Int) - 2) (by omega) (by omega)]
  by_cases h0 : 0 ≤ a
  · simp only [show ¬ a < 0 by omega, if_false]
    refine Ev.succ ?_
    by_cases h1 : a ≤ (l.length : Int) - 2
    · have w1 : wrap64 (a + 1) = a + 1 := wrap64_id (by omega) (by omega)
      have hy := rd_byte hb (a + 1)
      have w2 : wrap64 (a + 2) = a + 2 := wrap64_id (by omega) (by omega)
      have w3 : wrap64 ((l.length : Int) - (a + 2)) = l.length - a - 2 := by rw [wrap64_id (by omega) (by omega)]; omega
      simp only [impl_GetText.j0, w1, w2, w3, or_bytes hx.1 hx.2 hy.1 hy.2]
      simp only [show ¬ a > (l.length : Int) - 2 by omega, decide_false, Bool.false_eq_true, if_false, h0, if_true, show a < (l.length : Int) by omega, show (0 : Int) ≤ a + 1 by omega, show a + 1 < (l.length : Int) by omega, show (0 : Int) ≤ a + 2 by omega]
      unfold getM
      rw [if_pos (show 0 ≤ a ∧ a + 2 ≤ (l.length : Int) by omega)]
      generalize hn : rd l a * 256 + rd l (a + 1) = n
      by_cases h3 : n > 60000
      · simp only [h3, if_true, true_or]
        exact Ev.some
      · by_cases h2 : n > l.length - a - 2
        · simp only [h2, h3, if_true, if_false, or_true]
          exact Ev.some
        · have w4 : wrap64 (a + 2 + n) = a + 2 + n := wrap64_id (by omega) (by omega)
          simp only [h2, h3, if_false, w4, show a + 2 ≤ a + 2 + n by omega, show a + 2 + n ≤ (l.length : Int) by omega, if_true, or_self]
          exact Ev.some
    · simp only [impl_GetText.j0, show a > (l.length : Int) - 2 by omega, decide_true, if_true, getM, show ¬ (0 ≤ a ∧ a + 2 ≤ (l.length : Int)) by omega, if_false]
      exact Ev.some
  · simp only [show a < 0 by omega, if_true]
    refine Ev.succ ?_
    simp only [impl_GetText.j0, if_true, getM, show ¬ (0 ≤ a ∧ a + 2 ≤ (l.length : Int)) by omega, if_false]
    exact Ev.some

end Go.Proofs.Ytfbbagddhfeefaa.Pure
