/- Sorted lists of texts: what slices.Sort and slices.Compact make of a list is the one strictly rising list of its members. -/
import Derived.Test.YtpcdhoeoefoeoaaMine
import Derived.Test.YtpcdhoeoefoeoaaAux
import Derived.Sort.Walk0
import Derived.Lib.SlicesCompact
set_option linter.unusedVariables false
set_option linter.unusedSimpArgs false
namespace Go.Proofs.Ytpcdhoeoefoeoaa.Pure
open Go.RowKit Go.Proofs.Ytpcdhoeoefoeoaa.Aux

/-- One text is less than another one. -/
def bl (x y : List UInt8) : Prop := Op.bytesLess x y = true
theorem bl_tr : ∀ x y z : List UInt8, Op.bytesLess x y = true → Op.bytesLess y z = true → Op.bytesLess x z = true
  | x, y, z, h, h' => by
    rw [bytesLess_eq, decide_eq_true_eq] at h h' ⊢
    exact List.lt_trans h h'
theorem bl_irr (x : List UInt8) : ¬ bl x x := by
  unfold bl
  have h := Mine.less_turned x x
  simp only [beq_self_eq_true, Bool.or_true, Bool.not_true] at h
  rw [h]
  simp
theorem bl_or (x y : List UInt8) : bl x y ∨ x = y ∨ bl y x := by
  unfold bl
  have h := Mine.less_turned x y
  cases hx : Op.bytesLess x y with
  | true => exact .inl rfl
  | false =>
    rw [hx, Bool.false_or] at h
    by_cases e : x = y
    · exact .inr (.inl e)
    · refine .inr (.inr ?_)
      rw [h]
      simp [e]
theorem le_iff (x y : List UInt8) : x ≤ y ↔ ¬ bl y x := by
  unfold bl
  rw [bytesLess_eq, decide_eq_true_eq]
  exact List.not_lt.symm
theorem asc_one : ∀ {l m : List (List UInt8)}, l.Pairwise bl → m.Pairwise bl → (∀ x, x ∈ l ↔ x ∈ m) → l = m
  | [], [], _, _, _ => rfl
  | [], y :: m, _, _, h => absurd ((h y).2 (by simp)) (by simp)
  | x :: l, [], _, _, h => absurd ((h x).1 (by simp)) (by simp)
  | x :: l, y :: m, hl, hm, h => by
    obtain ⟨hx, hl'⟩ := List.pairwise_cons.1 hl
    obtain ⟨hy, hm'⟩ := List.pairwise_cons.1 hm
    have e : x = y := by
      rcases List.mem_cons.1 ((h x).1 (by simp)) with e | e
      · exact e
      rcases List.mem_cons.1 ((h y).2 (by simp)) with e' | e'
      · exact e'.symm
      · exact absurd (bl_tr _ _ _ (hx _ e') (hy _ e)) (bl_irr _)
    subst e
    refine congrArg (List.cons x) (asc_one hl' hm' fun z => ?_)
    constructor
    · intro hz
      rcases List.mem_cons.1 ((h z).1 (List.mem_cons_of_mem _ hz)) with e | e
      · exact absurd (e ▸ hx z hz) (bl_irr _)
      · exact e
    · intro hz
      rcases List.mem_cons.1 ((h z).2 (List.mem_cons_of_mem _ hz)) with e | e
      · exact absurd (e ▸ hy z hz) (bl_irr _)
      · exact e
/-- A rising list, without what stands twice. -/
theorem compact_upto (d : Array (List UInt8)) (hs : ∀ i j, i < j → j < d.size → ¬ bl d[j]! d[i]!) : ∀ m, m ≤ d.size →
    (Lib.compactUpTo d m).Pairwise bl ∧ (∀ x, x ∈ Lib.compactUpTo d m ↔ ∃ i, i < m ∧ x = d[i]!)
  | 0, _ => by
    refine ⟨by simp [Lib.compactUpTo], fun x => ?_⟩
    simp [Lib.compactUpTo]
  | m + 1, hm => by
    obtain ⟨h1, h2⟩ := compact_upto d hs m (by omega)
    rw [Lib.compactUpTo_succ]
    by_cases hk : Lib.keeps d m = true
    · rw [if_pos hk]
      have new : ∀ i, i < m → bl d[i]! d[m]! := by
        intro i hi
        rcases bl_or d[i]! d[m]! with h | h | h
        · exact h
        · -- then all between are the same, and the last one is left out
          exfalso
          have e : d[m]! = d[m - 1]! := by
            by_cases him : i = m - 1
            · rw [← him, h]
            · rcases bl_or d[m - 1]! d[m]! with g | g | g
              · exact absurd (h ▸ g) (hs i (m - 1) (by omega) (by omega))
              · exact g.symm
              · exact absurd g (hs (m - 1) m (by omega) (by omega))
          rw [Lib.keeps_neg (by omega) e] at hk
          exact absurd hk (by simp)
        · exact absurd h (hs i m hi (by omega))
      refine ⟨?_, fun x => ?_⟩
      · rw [List.pairwise_append]
        refine ⟨h1, by simp, fun a ha b hb => ?_⟩
        rw [List.mem_singleton.1 hb]
        obtain ⟨i, hi, rfl⟩ := (h2 a).1 ha
        exact new i hi
      · rw [List.mem_append, h2, List.mem_singleton]
        constructor
        · rintro (⟨i, hi, e⟩ | e)
          · exact ⟨i, by omega, e⟩
          · exact ⟨m, by omega, e⟩
        · rintro ⟨i, hi, e⟩
          by_cases h : i = m
          · exact .inr (h ▸ e)
          · exact .inl ⟨i, by omega, e⟩
    · rw [if_neg hk, List.append_nil]
      refine ⟨h1, fun x => ?_⟩
      rw [h2]
      constructor
      · rintro ⟨i, hi, e⟩
        exact ⟨i, by omega, e⟩
      · rintro ⟨i, hi, e⟩
        by_cases h : i = m
        · subst h
          have hm0 : 0 < i := by
            apply Nat.pos_of_ne_zero
            rintro rfl
            exact hk (Lib.keeps_lt_one d 0 (by omega))
          by_cases g : d[i]! = d[i - 1]!
          · exact ⟨i - 1, by omega, by rw [e, g]⟩
          · exact absurd (Lib.keeps_pos g) hk
        · exact ⟨i, by omega, e⟩
/-- What is sorted and freed of what stands twice rises, and has all. -/
theorem sorted_compact (l : List (List UInt8)) : (Lib.compact (l.mergeSort fun x y => decide (x ≤ y))).Pairwise bl ∧ ∀ x, x ∈ Lib.compact (l.mergeSort fun x y => decide (x ≤ y)) ↔ x ∈ l := by
  have hp := List.pairwise_mergeSort (le := fun x y : List UInt8 => decide (x ≤ y)) (fun a b c h h' => by
    rw [decide_eq_true_eq] at h h' ⊢
    exact List.le_trans h h') (fun a b => by
    rcases List.le_total a b with h | h
    · simp [h]
    · simp [h]) l
  generalize hq : (l.mergeSort fun x y => decide (x ≤ y)) = q at hp
  have hmem : ∀ x, x ∈ q ↔ x ∈ l := fun x => by rw [← hq]; exact List.mem_mergeSort
  have hs : ∀ i j, i < j → j < q.toArray.size → ¬ bl q.toArray[j]! q.toArray[i]! := by
    intro i j hij hj
    have hj' : j < q.length := by simpa using hj
    have h := List.pairwise_iff_getElem.1 hp i j (by omega) hj' hij
    rw [decide_eq_true_eq, le_iff] at h
    simpa [getElem!_pos, hj', show i < q.length by omega] using h
  obtain ⟨h1, h2⟩ := compact_upto q.toArray hs q.length (by simp)
  refine ⟨h1, fun x => ?_⟩
  rw [← hmem]
  refine (h2 x).trans ?_
  rw [List.mem_iff_getElem]
  constructor
  · rintro ⟨i, hi, e⟩
    exact ⟨i, hi, by rw [e]; simp [getElem!_pos, hi]⟩
  · rintro ⟨i, hi, e⟩
    exact ⟨i, hi, by rw [← e]; simp [getElem!_pos, hi]⟩
end Go.Proofs.Ytpcdhoeoefoeoaa.Pure
