/- What Join comes to, of the reference and of the program. -/
import Derived.Test.YtpmooegakomnbabDoorGBPureParts
import Derived.Lib.Join
import Derived.Test.YtpmooegakomnbabDoorPGBx2
import Derived.Test.YtpmooegakomnbabDoorPGBx3
set_option linter.unusedVariables false
set_option linter.unusedSimpArgs false
namespace Go.Proofs.YtpmooegakomnbabDoor.Pure
open Go.RowKit Go.Proofs.YtpmooegakomnbabDoor.PGB Go.Proofs.YtpmooegakomnbabDoorW.PrintWords Go.Proofs.YtpmooegakomnbabDoorW.PrintLast Go.Proofs.YtpmooegakomnbabDoor.Aux

def dats (l : List ByteArray) : List (List UInt8) := l.map (·.data.toList)
def joinB (l : List ByteArray) (sep : ByteArray) : ByteArray := ofL (Lib.join (dats l) sep.data.toList)
/-- How many bytes it takes at most. -/
def joinN (l : List ByteArray) (sep : ByteArray) : Nat := sep.size * l.length + Lib.lens (dats l)
theorem lens_szT : ∀ l : List ByteArray, (Lib.lens (dats l) : Int) = szT l
  | [] => rfl
  | x :: r => by
    have := lens_szT r
    simp only [Lib.lens, dats, List.map_cons, List.sum_cons, szT] at this ⊢
    rw [← this]
    simp
theorem joinB_size (l : List ByteArray) (sep : ByteArray) : (joinB l sep).size ≤ joinN l sep := by
  unfold joinB joinN
  rw [ofL_size]
  cases l with
  | nil => simp [dats, Lib.join_nil]
  | cons x r =>
    rw [show dats (x :: r) = x.data.toList :: dats r from rfl, Lib.join_length]
    have h1 : (dats r).length = r.length := by simp [dats]
    have h2 : sep.data.toList.length = sep.size := by simp
    rw [h1, h2, List.length_cons, Nat.mul_succ]
    omega
theorem spec_join_l (x : ByteArray) (r : List ByteArray) (sep : ByteArray) (hb : joinN (x :: r) sep ≤ 140737488355328) (hr : r.length ≤ 140737488355328) (d : Nat) : ∀ j : Nat, j + d = r.length →
    Ev (fun k => spec_Join.l0 k (x :: r) sep (ofL (x.data.toList ++ Lib.joinTail sep.data.toList ((dats r).take j))) ((j + 1 : Nat) : Int)) (joinB (x :: r) sep) := by
  have hdl : (dats r).length = r.length := by simp [dats]
  have hsl : sep.data.toList.length = sep.size := by simp
  have hxl : x.data.toList.length = x.size := by simp
  have hN : joinN (x :: r) sep = sep.size * (r.length + 1) + (x.size + Lib.lens (dats r)) := by
    unfold joinN
    simp [dats, Lib.lens]
  induction d with
  | zero =>
    intro j hj
    have h1 : ¬ ((j + 1 : Nat) : Int) < ((x :: r).length : Int) := by rw [List.length_cons]; omega
    refine Ev.succ ?_
    simp only [spec_Join.l0, h1, if_false]
    refine Ev.cast Ev.some ?_
    rw [List.take_of_length_le (by omega)]
    unfold joinB
    rw [show dats (x :: r) = x.data.toList :: dats r from rfl, Lib.join_cons]
  | succ d ih =>
    intro j hj
    have hlt : j < r.length := by omega
    have h1 : ((j + 1 : Nat) : Int) < ((x :: r).length : Int) := by rw [List.length_cons]; omega
    have h2 : ((j + 1 : Nat) : Int) > 0 := by omega
    have h2' : (0 : Int) ≤ ((j + 1 : Nat) : Int) := by omega
    have h3 : wrap64 (((j + 1 : Nat) : Int) + 1) = ((j + 1 + 1 : Nat) : Int) := by rw [wrap64_id (by omega) (by omega)]; omega
    have hg : rdOf ByteArray.empty (x :: r) ((j + 1 : Nat) : Int) = r[j] := by
      rw [rdOf_cast _ (show j + 1 < (x :: r).length by simpa using hlt)]
      rfl
    have hd : (dats r)[j]? = some r[j].data.toList := by
      unfold dats
      rw [List.getElem?_map, List.getElem?_eq_getElem hlt]
      rfl
    have hts := Lib.joinTail_take_succ sep.data.toList (dats r) j _ hd
    have hle := Lib.joinTail_take_le sep.data.toList (dats r) (j + 1)
    rw [Lib.joinTail_length sep.data.toList (dats r), hts, List.length_append, List.length_append, hsl, hdl] at hle
    have hrl : r[j].data.toList.length = r[j].size := by simp
    have e1 : ofL (x.data.toList ++ Lib.joinTail sep.data.toList ((dats r).take j)) ++ sep = ofL (x.data.toList ++ Lib.joinTail sep.data.toList ((dats r).take j) ++ sep.data.toList) := by
      rw [← ofL_data (ofL _ ++ sep)]; simp [ofL]
    have e2 : ∀ u : List UInt8, ofL u ++ r[j] = ofL (u ++ r[j].data.toList) := fun u => by
      rw [← ofL_data (ofL _ ++ r[j])]; simp [ofL]
    have hmul : sep.size * r.length ≤ sep.size * (r.length + 1) := Nat.mul_le_mul_left _ (by omega)
    refine Ev.succ ?_
    simp only [spec_Join.l0, h1, h2, h2', if_true, hg, h3, e1, e2, ofL_size, List.length_append, hxl, hsl]
    have b1 : x.size + (Lib.joinTail sep.data.toList (List.take j (dats r))).length + sep.size ≤ 9223372036854775807 := by omega
    have b2 : x.size + (Lib.joinTail sep.data.toList (List.take j (dats r))).length + sep.size + r[j].size ≤ 9223372036854775807 := by omega
    simp only [b1, b2, if_true]
    have h := ih (j + 1) (by omega)
    rw [hts] at h
    simpa only [List.append_assoc] using h
theorem spec_join (l : List ByteArray) (sep : ByteArray) (hb : joinN l sep ≤ 140737488355328) (hr : l.length ≤ 140737488355328) : Ev (fun k => spec_Join.f k l sep) (joinB l sep) := by
  unfold spec_Join.f
  cases l with
  | nil =>
    refine Ev.succ ?_
    simp only [spec_Join.l0, List.length_nil, show ¬ ((0 : Int) < ((0 : Nat) : Int)) by omega, if_false]
    exact Ev.some
  | cons x r =>
    have hxs : x.size ≤ 140737488355328 := by
      unfold joinN at hb
      simp [dats, Lib.lens] at hb
      omega
    have hg : rdOf ByteArray.empty (x :: r) 0 = x := rfl
    have he : (⟨#[]⟩ : ByteArray) ++ x = x := by
      rw [← ofL_data ((⟨#[]⟩ : ByteArray) ++ x)]
      conv => rhs; rw [← ofL_data x]
      simp [ofL]
    have h := spec_join_l x r sep hb (by simp at hr; omega) r.length 0 (by omega)
    refine Ev.succ ?_
    simp only [spec_Join.l0, show ((0 : Int) < ((x :: r).length : Int)) by rw [List.length_cons]; omega, show ¬ ((0 : Int) > 0) by omega, if_true, if_false, Int.le_refl, hg, he]
    rw [show wrap64 (0 + 1) = ((0 + 1 : Nat) : Int) from by rw [wrap64_id (by omega) (by omega)]; rfl]
    have hz : (⟨#[]⟩ : ByteArray).size + x.size ≤ 9223372036854775807 := by show 0 + x.size ≤ _; omega
    simp only [hz, if_true]
    simpa [Lib.joinTail, ofL_data] using h
theorem strings_join (l : List ByteArray) (sep : ByteArray) (hb : joinN l sep ≤ 140737488355328) (hr : l.length ≤ 140737488355328) : strings_Join.f l sep = some (joinB l sep) := by
  have h := joinB_size l sep
  unfold joinB at h
  rw [ofL_size] at h
  unfold strings_Join.f
  rw [if_pos ⟨Nat.le_trans h hb, hr⟩]
  rfl
end Go.Proofs.YtpmooegakomnbabDoor.Pure
