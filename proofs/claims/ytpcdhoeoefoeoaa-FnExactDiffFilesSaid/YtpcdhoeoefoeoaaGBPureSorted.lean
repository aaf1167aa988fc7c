/- Sorted of the reference and of the program: the one strictly rising list of a list's members. -/
import Derived.Test.YtpcdhoeoefoeoaaGBPureSortLaw
import Derived.Test.YtpcdhoeoefoeoaaPGBx0
import Derived.Test.YtpcdhoeoefoeoaaPGBx1
import Derived.Test.YtpcdhoeoefoeoaaPGBx2
set_option linter.unusedVariables false
set_option linter.unusedSimpArgs false
namespace Go.Proofs.Ytpcdhoeoefoeoaa.Pure
open Go.RowKit Go.Proofs.Ytpcdhoeoefoeoaa.PGB Go.Proofs.YtpcdhoeoefoeoaaW.PrintWords Go.Proofs.YtpcdhoeoefoeoaaW.PrintLast Go.Proofs.Ytpcdhoeoefoeoaa.Aux

def blB (a b : ByteArray) : Prop := bl a.toList b.toList
theorem blB_tr {a b c : ByteArray} (h : blB a b) (h' : blB b c) : blB a c := bl_tr _ _ _ h h'
theorem blB_irr (a : ByteArray) : ¬ blB a a := bl_irr _
theorem blB_or (a b : ByteArray) : blB a b ∨ a = b ∨ blB b a := by
  rcases bl_or a.toList b.toList with h | h | h
  · exact .inl h
  · exact .inr (.inl (toList_inj.1 h))
  · exact .inr (.inr h)
theorem ascB_one {l m : List ByteArray} (hl : l.Pairwise blB) (hm : m.Pairwise blB) (h : ∀ x, x ∈ l ↔ x ∈ m) : l = m := by
  have e : l.map ByteArray.toList = m.map ByteArray.toList := asc_one (List.pairwise_map.2 hl) (List.pairwise_map.2 hm) (fun x => by
    rw [List.mem_map, List.mem_map]
    constructor
    · rintro ⟨a, ha, rfl⟩; exact ⟨a, (h a).1 ha, rfl⟩
    · rintro ⟨a, ha, rfl⟩; exact ⟨a, (h a).2 ha, rfl⟩)
  exact (List.map_inj_right (fun x y hxy => toList_inj.1 hxy)).1 e
/-- The rising list of a list's members. -/
def sortB (l : List ByteArray) : List ByteArray := impl_Sorted.once (impl_Sorted.rise l)
theorem sortB_eq (l : List ByteArray) : sortB l = impl_Sorted.back (Lib.compact ((impl_Sorted.strs l).mergeSort fun x y => decide (x ≤ y))) := by
  unfold sortB impl_Sorted.once impl_Sorted.rise
  rw [impl_Sorted.strs_back]
theorem sortB_spec (l : List ByteArray) : (sortB l).Pairwise blB ∧ ∀ x, x ∈ sortB l ↔ x ∈ l := by
  obtain ⟨h1, h2⟩ := sorted_compact (impl_Sorted.strs l)
  rw [sortB_eq]
  refine ⟨?_, fun x => ?_⟩
  · unfold impl_Sorted.back
    rw [List.pairwise_map]
    refine h1.imp ?_
    intro a b hab
    unfold blB
    rw [toList_data, toList_data]
    exact hab
  · unfold impl_Sorted.back
    rw [List.mem_map]
    constructor
    · rintro ⟨a, ha, rfl⟩
      have := (h2 a).1 ha
      unfold impl_Sorted.strs at this
      obtain ⟨y, hy, rfl⟩ := List.mem_map.1 this
      exact hy
    · intro hx
      exact ⟨x.data.toList, (h2 _).2 (List.mem_map.2 ⟨x, hx, rfl⟩), rfl⟩
theorem sortB_length (l : List ByteArray) : (sortB l).length ≤ l.length := by
  rw [sortB_eq]
  unfold impl_Sorted.back
  rw [List.length_map]
  refine Nat.le_trans (Lib.compact_length_le _) ?_
  rw [List.length_mergeSort]
  unfold impl_Sorted.strs
  rw [List.length_map]
  exact Nat.le_refl _
theorem impl_sorted (l : List ByteArray) (hl : l.length < 8796093022208) : impl_Sorted.f l = some (sortB l) := by
  unfold impl_Sorted.f slices_Clone_string_string.f
  simp [hl, sortB]

open Classical in
theorem l1Has_l (l : List ByteArray) (s : ByteArray) (hl : l.length ≤ 9223372036854775807) (d : Nat) : ∀ i : Nat, i + d = l.length → Ev (fun k => spec_l1Has.l0 k l s (i : Int)) (decide (s ∈ l.drop i)) := by
  induction d with
  | zero =>
    intro i hi
    have h1 : ¬ (i : Int) < (l.length : Int) := by omega
    refine Ev.succ ?_
    rw [List.drop_eq_nil_of_le (by omega)]
    simp only [spec_l1Has.l0, h1, if_false, List.not_mem_nil, decide_false]
    exact Ev.some
  | succ d ih =>
    intro i hi
    have hlt : i < l.length := by omega
    have h1 : (i : Int) < (l.length : Int) := by omega
    have h2 : (0 : Int) ≤ (i : Int) := by omega
    have h3 := next_i hlt hl
    refine Ev.succ ?_
    rw [drop_get hlt]
    simp only [spec_l1Has.l0, h1, h2, h3, if_true, rdOf_cast _ hlt, toList_inj]
    by_cases h : l[i] = s
    · simp only [h, if_true, List.mem_cons, true_or, decide_true]
      exact Ev.some
    · have h' : ¬ s = l[i] := fun e => h e.symm
      simp only [h, h', if_false, List.mem_cons, false_or]
      exact ih (i + 1) (by omega)
open Classical in
theorem l1Has (l : List ByteArray) (s : ByteArray) (hl : l.length ≤ 9223372036854775807) : Ev (fun k => spec_l1Has.f k l s) (decide (s ∈ l)) := by
  unfold spec_l1Has.f
  have := l1Has_l l s hl l.length 0 (by omega)
  simpa using this

theorem ins_ok {out : List ByteArray} {s : ByteArray} {q : Nat} (hs : out.Pairwise blB) (hq : q ≤ out.length) (hlo : ∀ x ∈ out.take q, blB x s) (hhi : ∀ x ∈ out.drop q, blB s x) :
    (out.take q ++ s :: out.drop q).Pairwise blB ∧ (∀ x, x ∈ out.take q ++ s :: out.drop q ↔ x = s ∨ x ∈ out) ∧ (out.take q ++ s :: out.drop q).length = out.length + 1 := by
  refine ⟨?_, fun x => ?_, ?_⟩
  · rw [List.pairwise_append]
    refine ⟨hs.sublist (List.take_sublist _ _), List.pairwise_cons.2 ⟨hhi, hs.sublist (List.drop_sublist _ _)⟩, fun a ha b hb => ?_⟩
    rcases List.mem_cons.1 hb with rfl | hb
    · exact hlo a ha
    · exact blB_tr (hlo a ha) (hhi b hb)
  · have e : x ∈ out ↔ x ∈ out.take q ∨ x ∈ out.drop q := by
      rw [← List.mem_append, List.take_append_drop]
    rw [List.mem_append, List.mem_cons, e]
    constructor
    · rintro (h | h | h)
      · exact .inr (.inl h)
      · exact .inl h
      · exact .inr (.inr h)
    · rintro (h | h | h)
      · exact .inr (.inl h)
      · exact .inl h
      · exact .inr (.inr h)
  · rw [List.length_append, List.length_cons, List.length_take, List.length_drop]
    omega
theorem set_split {x3 out : List ByteArray} {s : ByteArray} {q : Nat} (hl : x3.length = out.length + 1) (hq : q ≤ out.length) (h1 : x3.take q = out.take q) (h2 : x3.drop (q + 1) = out.drop q) : x3.set q s = out.take q ++ s :: out.drop q := by
  rw [List.set_eq_take_append_cons_drop, if_pos (by omega), h1, h2]
theorem sorted_in (l : List ByteArray) (hl : l.length < 8796093022208) (i : Nat) (hi : i < l.length) (out : List ByteArray) (ho : out.length ≤ i) (hs : out.Pairwise blB) (hn : ¬ l[i] ∈ out) (r : List ByteArray)
    (h : ∀ m : List ByteArray, m.Pairwise blB → (∀ x, x ∈ m ↔ x = l[i] ∨ x ∈ out) → m.length = out.length + 1 → Ev (fun k => spec_Sorted.l0 k l m ((i + 1 : Nat) : Int)) r) :
    ∀ (q : Nat) (x3 : List ByteArray), q ≤ out.length → x3.length = out.length + 1 → x3.take q = out.take q → x3.drop (q + 1) = out.drop q → (∀ x ∈ out.drop q, blB l[i] x) → Ev (fun k => spec_Sorted.l1 k l x3 (i : Int) (q : Int)) r := by
  intro q
  have a1 : (0 : Int) ≤ (i : Int) := by omega
  have a2 : (i : Int) < (l.length : Int) := by omega
  have a3 := next_i hi (by omega)
  induction q with
  | zero =>
    intro x3 hq hx h1 h2 h3
    refine Ev.succ ?_
    simp only [spec_Sorted.l1, show ¬ ((0 : Nat) : Int) > 0 by omega, if_false, a1, a2, if_true, show (0 : Int) ≤ ((0 : Nat) : Int) by omega, show ((0 : Nat) : Int) < (x3.length : Int) by omega, a3, Int.toNat_natCast, rdOf_cast _ hi]
    rw [set_split (s := l[i]) hx hq h1 h2]
    obtain ⟨m1, m2, m3⟩ := ins_ok (s := l[i]) hs hq (by simp) h3
    exact h _ m1 m2 m3
  | succ q ih =>
    intro x3 hq hx h1 h2 h3
    have b0 : wrap64 (((q + 1 : Nat) : Int) - 1) = (q : Int) := by rw [wrap64_id (by omega) (by omega)]; omega
    have hqx : q < x3.length := by omega
    have hqo : q < out.length := by omega
    have e : x3[q] = out[q] := by
      have t := congrArg (fun z => z[q]?) h1
      simp only [List.getElem?_take] at t
      rw [if_pos (by omega), if_pos (by omega), List.getElem?_eq_getElem hqx, List.getElem?_eq_getElem hqo] at t
      exact Option.some.inj t
    refine Ev.succ ?_
    simp only [spec_Sorted.l1, show ((q + 1 : Nat) : Int) > 0 by omega, b0, if_true, a1, a2, a3, show (0 : Int) ≤ (q : Int) by omega, show (q : Int) < (x3.length : Int) by omega, show (0 : Int) ≤ ((q + 1 : Nat) : Int) by omega, show ((q + 1 : Nat) : Int) < (x3.length : Int) by omega, Int.toNat_natCast, rdOf_cast _ hi, rdOf_cast _ hqx, e]
    by_cases c : Op.bytesLess l[i].toList out[q].toList = true
    · simp only [c, if_true]
      refine ih (x3.set (q + 1) out[q]) (by omega) (by simpa using hx) ?_ ?_ ?_
      · rw [List.take_set_of_le (by omega)]
        have t := congrArg (List.take q) h1
        rwa [List.take_take, List.take_take, Nat.min_eq_left (by omega)] at t
      · rw [List.drop_set, if_neg (by omega), Nat.sub_self, drop_get (show q + 1 < x3.length by omega), List.set_cons_zero, h2, ← drop_get hqo]
      · intro x hx'
        rw [drop_get hqo] at hx'
        rcases List.mem_cons.1 hx' with rfl | hx'
        · exact c
        · exact h3 x hx'
    · simp only [c, if_false]
      rw [set_split (s := l[i]) hx hq h1 h2]
      have g : blB out[q] l[i] := by
        rcases blB_or l[i] out[q] with g | g | g
        · exact absurd g c
        · exact absurd (g ▸ List.getElem_mem hqo) hn
        · exact g
      obtain ⟨m1, m2, m3⟩ := ins_ok (s := l[i]) hs hq (fun x hx' => by
        rw [List.take_succ_eq_append_getElem hqo] at hx'
        rcases List.mem_append.1 hx' with hx' | hx'
        · have p := hs
          rw [← List.take_append_drop q out, List.pairwise_append] at p
          refine blB_tr (p.2.2 x hx' out[q] ?_) g
          rw [drop_get hqo]
          exact List.mem_cons_self
        · rw [List.mem_singleton.1 hx']
          exact g) h3
      exact h _ m1 m2 m3
open Classical in
theorem spec_sorted_l (l : List ByteArray) (hl : l.length < 8796093022208) (d : Nat) : ∀ (i : Nat) (out : List ByteArray), i + d = l.length → out.length ≤ i → out.Pairwise blB → (∀ x, x ∈ out ↔ x ∈ l.take i) → Ev (fun k => spec_Sorted.l0 k l out (i : Int)) (sortB l) := by
  induction d with
  | zero =>
    intro i out hi ho hs hm
    have h1 : ¬ (i : Int) < (l.length : Int) := by omega
    obtain ⟨s1, s2⟩ := sortB_spec l
    have e : out = sortB l := ascB_one hs s1 (fun x => by rw [hm, s2, List.take_of_length_le (by omega)])
    subst e
    refine Ev.succ ?_
    simp only [spec_Sorted.l0, h1, if_false]
    exact Ev.some
  | succ d ih =>
    intro i out hi ho hs hm
    have hlt : i < l.length := by omega
    have h1 : (i : Int) < (l.length : Int) := by omega
    have h2 : (0 : Int) ≤ (i : Int) := by omega
    have h3 := next_i hlt (by omega)
    have ht : ∀ x, x ∈ l.take (i + 1) ↔ x ∈ l.take i ∨ x = l[i] := fun x => by rw [List.take_succ_eq_append_getElem hlt, List.mem_append, List.mem_singleton]
    refine Ev.succ ?_
    simp only [spec_Sorted.l0, h1, if_true]
    refine Ev.succ ?_
    simp only [spec_Sorted.j1, h1, h2, if_true, rdOf_cast _ hlt]
    refine Ev.bind (l1Has out l[i] (by omega)) ?_
    by_cases c : l[i] ∈ out
    · simp only [c, decide_true, if_true, h3]
      refine ih (i + 1) out (by omega) (by omega) hs (fun x => ?_)
      rw [ht, ← hm]
      constructor
      · exact .inl
      · rintro (h | h)
        · exact h
        · exact h ▸ c
    · simp only [c, decide_false, Bool.false_eq_true, if_false]
      refine Ev.succ ?_
      have b0 : wrap64 (((out ++ [l[i]]).length : Int) - 1) = (out.length : Int) := by
        rw [List.length_append, List.length_singleton, wrap64_id (by omega) (by omega)]
        omega
      simp only [spec_Sorted.j2, h1, h2, if_true, rdOf_cast _ hlt, show out.length < 8796093022208 by omega, Option.bind_some, b0]
      refine sorted_in l hl i hlt out ho hs c (sortB l) (fun m m1 m2 m3 => ?_) out.length (out ++ [l[i]]) (Nat.le_refl _) (by simp) (by simp) (by simp) (by simp)
      refine ih (i + 1) m (by omega) (by omega) m1 (fun x => ?_)
      rw [m2, ht, ← hm]
      exact Or.comm
theorem spec_sorted (l : List ByteArray) (hl : l.length < 8796093022208) : Ev (fun k => spec_Sorted.f k l) (sortB l) := by
  unfold spec_Sorted.f
  have := spec_sorted_l l hl l.length 0 [] (by omega) (by simp) List.Pairwise.nil (by simp)
  simpa using this
end Go.Proofs.Ytpcdhoeoefoeoaa.Pure
