/- Plain lemmas on numbers, bytes, lists and rounds that the pure statements of this seat share. -/
import Derived.Test.YtcendeobgiphaaaWWords
namespace Go.Proofs.Ytcendeobgiphaaa.Aux
open Go.RowKit Go.Proofs.YtcendeobgiphaaaW.PrintWords

theorem wrap64_id {i : Int} (h0 : -9223372036854775808 ≤ i) (h1 : i ≤ 9223372036854775807) : wrap64 i = i := by
  unfold wrap64; omega

theorem wf_i64 {x : Int} (h : (Lit.int .i64 x).wf = true) : -9223372036854775808 ≤ x ∧ x ≤ 9223372036854775807 := by
  simp only [Lit.wf, IntKind.min, IntKind.max, IntKind.signed, IntKind.bits, Bool.and_eq_true, decide_eq_true_eq, if_true] at h
  omega

theorem wf_u8 {x : Int} (h : (Lit.int .u8 x).wf = true) : 0 ≤ x ∧ x ≤ 255 := by
  simp [Lit.wf, IntKind.min, IntKind.max, IntKind.signed, IntKind.bits] at h
  omega

theorem Ev.succ {α : Type} {g : Nat → Option α} {r : α} (h : Ev (fun k => g (k + 1)) r) : Ev g r := Ev.step (fun _ => rfl) h

theorem Ev.some {α : Type} {r : α} : Ev (fun _ => Option.some r) r := Ev.now r

theorem Ev.cond {α : Type} {c : Prop} [Decidable c] {g f : Nat → Option α} {r : α} (h : c → Ev g r) (h' : ¬c → Ev f r) : Ev (fun k => if c then g k else f k) r := by
  by_cases hc : c
  · simpa only [hc, if_true] using h hc
  · simpa only [hc, if_false] using h' hc

theorem Ev.const {α : Type} {o : Option α} {r : α} (h : o = Option.some r) : Ev (fun _ => o) r := by
  subst h; exact Ev.now r

theorem Ev.cast {α : Type} {g : Nat → Option α} {r s : α} (h : Ev g r) (e : r = s) : Ev g s := e ▸ h

theorem Ev.get {α : Type} {g : Nat → Option α} {r : α} (h : Ev g r) : ∃ k, g k = Option.some r := h.rounds

/-- The bytes of a string as whole numbers. -/
def bs (s : ByteArray) : List Int := s.data.toList.map fun b => (b.toNat : Int)

theorem bs_length (s : ByteArray) : (bs s).length = s.size := by simp [bs]

theorem bt_bs (s : ByteArray) (i : Int) : bt s i = (bs s).getD i.toNat 0 := by
  unfold bt bs
  split
  · rename_i h
    rw [List.getD_eq_getElem?_getD, List.getElem?_map, List.getElem?_eq_getElem (by simpa using h)]
    simp
    rfl
  · rename_i h
    rw [List.getD_eq_getElem?_getD, List.getElem?_eq_none (by simp; omega)]
    rfl

theorem bs_range {s : ByteArray} {x : Int} (h : x ∈ bs s) : 0 ≤ x ∧ x ≤ 255 := by
  simp only [bs, List.mem_map] at h
  obtain ⟨b, _, rfl⟩ := h
  have := b.toNat_lt
  omega

theorem bs_inj {a b : ByteArray} (h : bs a = bs b) : a = b := by
  have h2 : a.data.toList = b.data.toList := by
    unfold bs at h
    refine (List.map_inj_right (f := fun b : UInt8 => (b.toNat : Int)) ?_).1 h
    intro x y hxy
    exact UInt8.toNat_inj.1 (by omega)
  cases a with | mk a => cases b with | mk b =>
  simp at h2
  rw [h2]

theorem bs_drop {s : ByteArray} {i : Nat} (h : i < s.size) : (bs s).drop i = bt s (i : Int) :: (bs s).drop (i + 1) := by
  rw [List.drop_eq_getElem_cons (by rw [bs_length]; exact h), bt_bs, List.getD_eq_getElem?_getD, Int.toNat_natCast, List.getElem?_eq_getElem (by rw [bs_length]; exact h)]
  rfl

theorem bs_end {s : ByteArray} {i : Nat} (h : s.size ≤ i) : (bs s).drop i = [] := List.drop_eq_nil_of_le (by rw [bs_length]; exact h)

theorem rd_drop {l : List Int} {i : Nat} (h : i < l.length) : l.drop i = rd l (i : Int) :: l.drop (i + 1) := by
  rw [List.drop_eq_getElem_cons h]
  unfold rd
  rw [List.getD_eq_getElem?_getD, Int.toNat_natCast, List.getElem?_eq_getElem h]
  rfl

theorem rd_cast {l : List Int} {i : Nat} (h : i < l.length) : rd l (i : Int) = l[i] := by
  unfold rd
  rw [List.getD_eq_getElem?_getD, Int.toNat_natCast, List.getElem?_eq_getElem h]
  rfl

end Go.Proofs.Ytcendeobgiphaaa.Aux
