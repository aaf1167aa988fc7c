/- What the laws' helpers over slices of bytes come to: copies, comparisons, marks. -/
import Derived.Test.YtcendeobgiphaaaAux
import Derived.Test.YtcendeobgiphaaaPGEx1
set_option linter.unusedVariables false
set_option linter.unusedSimpArgs false
namespace Go.Proofs.Ytcendeobgiphaaa.Pure
open Go.RowKit Go.Proofs.Ytcendeobgiphaaa.PGE Go.Proofs.YtcendeobgiphaaaW.PrintWords Go.Proofs.YtcendeobgiphaaaW.PrintLast Go.Proofs.Ytcendeobgiphaaa.Aux

theorem toByteS_l (l : List Int) (hl : l.length ≤ 9223372036854775807) (d : Nat) : ∀ (i : Nat) (x : List Int), i + d = l.length → x.length = l.length → x.take i = l.take i →
    Ev (fun k => laws_toByteS.l0 k l x (i : Int)) l := by
  induction d with
  | zero =>
    intro i x hi hx he
    have h1 : ¬ (i : Int) < (l.length : Int) := by omega
    have e : x = l := by rwa [List.take_of_length_le (by omega), List.take_of_length_le (by omega)] at he
    refine Ev.succ ?_
    simp only [laws_toByteS.l0, h1, if_false, e]
    exact Ev.some
  | succ d ih =>
    intro i x hi hx he
    have hlt : i < l.length := by omega
    have h1 : (i : Int) < (l.length : Int) := by omega
    have h1x : (i : Int) < (x.length : Int) := by omega
    have h2 : (0 : Int) ≤ (i : Int) := by omega
    have h3 := next_i hlt hl
    refine Ev.succ ?_
    simp only [laws_toByteS.l0, h1, h1x, h2, h3, if_true, Int.toNat_natCast, rd_cast hlt]
    exact ih (i + 1) _ (by omega) (by simpa using hx) (take_set_step (by omega) hlt he)
theorem toByteS (l : List Int) (hl : l.length ≤ 281474976710656) : Ev (fun k => laws_toByteS.f k l) l := by
  unfold laws_toByteS.f
  simp only [show (0 : Int) ≤ (l.length : Int) by omega, show (l.length : Int).toNat ≤ 281474976710656 by omega, if_true]
  exact toByteS_l l (by omega) l.length 0 _ (by omega) (by simp) (by simp)

theorem eqByteS_l (l : List Int) (hl : l.length ≤ 9223372036854775807) (d : Nat) : ∀ i : Nat, i + d = l.length → Ev (fun k => laws_eqByteS.l0 k l l (i : Int)) true := by
  induction d with
  | zero =>
    intro i hi
    have h1 : ¬ (i : Int) < (l.length : Int) := by omega
    refine Ev.succ ?_
    simp only [laws_eqByteS.l0, h1, if_false]
    exact Ev.some
  | succ d ih =>
    intro i hi
    have hlt : i < l.length := by omega
    have h1 : (i : Int) < (l.length : Int) := by omega
    have h2 : (0 : Int) ≤ (i : Int) := by omega
    have h3 := next_i hlt hl
    refine Ev.succ ?_
    simp only [laws_eqByteS.l0, h1, h2, h3, if_true]
    exact ih (i + 1) (by omega)
theorem eqByteS (l : List Int) (hl : l.length ≤ 9223372036854775807) : Ev (fun k => laws_eqByteS.f k l l) true := by
  unfold laws_eqByteS.f
  simp only [if_true]
  refine Ev.succ ?_
  simp only [laws_eqByteS.j0]
  exact eqByteS_l l hl l.length 0 (by omega)

/-- The marks 1, 2, 3, .. as bytes. -/
def marksB (n : Nat) : List Int := (List.range n).map fun j : Nat => (1 + (j : Int)) % 256
theorem marksB_length (n : Nat) : (marksB n).length = n := by simp [marksB]
theorem marksB_get (n i : Nat) (h : i < (marksB n).length) : (marksB n)[i] = (1 + (i : Int)) % 256 := by simp [marksB]
theorem markByteS_l (n : Nat) (hn : n ≤ 1000000000) (d : Nat) : ∀ (i : Nat) (x : List Int), i + d = n → x.length = n → x.take i = (marksB n).take i →
    Ev (fun k => laws_markByteS.l0 k x (1 + (i : Int)) (i : Int)) (1 + (n : Int), marksB n) := by
  induction d with
  | zero =>
    intro i x hi hx he
    obtain rfl : i = n := by omega
    have e : x = marksB i := by rwa [List.take_of_length_le (by omega), List.take_of_length_le (by rw [marksB_length]; omega)] at he
    subst e
    have h1 : ¬ (i : Int) < ((marksB i).length : Int) := by omega
    refine Ev.succ ?_
    simp only [laws_markByteS.l0, h1, if_false]
    exact Ev.some
  | succ d ih =>
    intro i x hi hx he
    have hlt : i < x.length := by omega
    have hm : i < (marksB n).length := by rw [marksB_length]; omega
    have h1 : (i : Int) < (x.length : Int) := by omega
    have h2 : (0 : Int) ≤ (i : Int) := by omega
    have h3 := next_i hlt (by omega)
    have h4 : wrap64 (1 + (i : Int) + 1) = 1 + ((i + 1 : Nat) : Int) := by rw [wrap64_id (by omega) (by omega)]; omega
    refine Ev.succ ?_
    simp only [laws_markByteS.l0, h1, h2, h3, h4, if_true, Int.toNat_natCast]
    refine ih (i + 1) _ (by omega) (by simpa using hx) ?_
    have := take_set_step hlt hm he
    rw [marksB_get] at this
    exact this
theorem markByteS (l : List Int) (hl : l.length ≤ 1000000000) : Ev (fun k => laws_markByteS.f k l 1) (1 + (l.length : Int), marksB l.length) :=
  markByteS_l l.length hl l.length 0 l (by omega) rfl (by simp)
theorem heldByteS_l (n : Nat) (hn : n ≤ 1000000000) (d : Nat) : ∀ i : Nat, i + d = n → Ev (fun k => laws_heldByteS.l0 k (marksB n) (1 + (i : Int)) (i : Int)) (1 + (n : Int)) := by
  induction d with
  | zero =>
    intro i hi
    obtain rfl : i = n := by omega
    have h1 : ¬ (i : Int) < ((marksB i).length : Int) := by rw [marksB_length]; omega
    refine Ev.succ ?_
    simp only [laws_heldByteS.l0, h1, if_false]
    exact Ev.some
  | succ d ih =>
    intro i hi
    have hlt : i < (marksB n).length := by rw [marksB_length]; omega
    have h1 : (i : Int) < ((marksB n).length : Int) := by omega
    have h2 : (0 : Int) ≤ (i : Int) := by omega
    have h3 := next_i hlt (by rw [marksB_length]; omega)
    have h4 : wrap64 (1 + (i : Int) + 1) = 1 + ((i + 1 : Nat) : Int) := by rw [wrap64_id (by omega) (by omega)]; omega
    refine Ev.succ ?_
    simp only [laws_heldByteS.l0, h1, h2, h3, h4, if_true, rd_cast hlt, marksB_get]
    exact ih (i + 1) (by omega)
theorem heldByteS (n : Nat) (hn : n ≤ 1000000000) : Ev (fun k => laws_heldByteS.f k (marksB n) 1) (1 + (n : Int)) := heldByteS_l n hn n 0 (by omega)
end Go.Proofs.Ytcendeobgiphaaa.Pure
