/- What ValOk comes to, of the reference and of the program. -/
import Derived.Test.YtfbbagddhfeefaaGIPureHere
import Derived.Test.YtfbbagddhfeefaaPGIx5
import Derived.Test.YtfbbagddhfeefaaPGIx7
set_option linter.unusedVariables false
set_option linter.unusedSimpArgs false
namespace Go.Proofs.Ytfbbagddhfeefaa.Pure
open Go.RowKit Go.Proofs.Ytfbbagddhfeefaa.PGI Go.Proofs.YtfbbagddhfeefaaW.PrintWords Go.Proofs.YtfbbagddhfeefaaW.PrintLast Go.Proofs.Ytfbbagddhfeefaa.Aux

theorem spec_here (x : S59) (h2 : x.f2.size ≤ 9223372036854775807) (h4 : x.f4.length ≤ 9223372036854775807) (g4 : ∀ z ∈ x.f4, z.size ≤ 9223372036854775807) :
    Ev (fun k => spec_l2Here.f k x.f0 x.f1 x.f2 x.f3 x.f4) (hereB x) := by
  have ht := spec_text x.f2 h2
  have t0 : x.f2.size = 0 → textB x.f2 = true := by
    intro h
    have hb : bs x.f2 = [] := List.eq_nil_of_length_eq_zero (by rw [bs_length]; exact h)
    simp [textB, hb, h]
  have hk := spec_keys x h4 g4 x.f4.length 0 (by omega)
  have fail : hereB x = false → Ev (fun k => spec_l2Here.j0 k true x.f0 x.f1 x.f2 x.f3 x.f4) (hereB x) := by
    intro h
    rw [h]
    refine Ev.succ ?_
    simp only [spec_l2Here.j0, if_true]
    exact Ev.some
  have go : ((x.f0 = 3 ∨ x.f2.size = 0) ∧ (x.f0 = 5 ∨ x.f4.length = 0) ∧ (x.f0 = 5 ∨ x.f0 = 4 ∨ x.f3.length = 0)) → Ev (fun k => spec_l2Here.j0 k false x.f0 x.f1 x.f2 x.f3 x.f4) (hereB x) := by
    rintro ⟨q1, q2, q3⟩
    refine Ev.succ ?_
    simp only [spec_l2Here.j0, Bool.false_eq_true, if_false]
    refine Ev.succ ?_
    simp only [spec_l2Here.j1]
    by_cases k0 : x.f0 = 0
    · simp only [k0, if_true]
      refine Ev.succ ?_
      simp only [spec_l2Here.j2, beq_self_eq_true, if_true]
      have e2 : x.f2.size = 0 := by omega
      have e3 : x.f3.length = 0 := by omega
      have e4 : x.f4.length = 0 := by omega
      have hh : hereB x = decide (x.f1 = 0) := by simp only [hereB, k0, if_true, listsB, e2, e3, e4, decide_true, Bool.true_and, Bool.and_true]
      rw [hh]
      by_cases e1 : x.f1 = 0
      · simp only [e1, if_true, decide_true]
        rw [t0 e2] at ht
        exact Ev.bind ht Ev.some
      · simpa [e1] using Ev.some
    by_cases k3 : x.f0 = 3
    · simp only [k3, if_true, show ¬ (3 : Int) = 0 by omega, if_false]
      refine Ev.succ ?_
      simp only [spec_l2Here.j2, beq_self_eq_true, if_true]
      have e3 : x.f3.length = 0 := by omega
      have e4 : x.f4.length = 0 := by omega
      have hh : hereB x = (decide (x.f1 = 0) && textB x.f2) := by simp only [hereB, k3, if_true, listsB, e3, e4, decide_true, Bool.true_and, Bool.and_true, show ¬ (3 : Int) = 0 by omega, show ¬ (3 : Int) = 1 by omega, show ¬ (3 : Int) = 2 by omega, if_false]
      rw [hh]
      by_cases e1 : x.f1 = 0
      · simp only [e1, if_true, decide_true, Bool.true_and]
        exact Ev.bind ht Ev.some
      · simpa [e1] using Ev.some
    simp only [k0, k3, if_false]
    refine Ev.succ ?_
    by_cases k4 : x.f0 = 4
    · simp only [k4, spec_l2Here.j2, beq_self_eq_true, if_true]
      have e2 : x.f2.size = 0 := by omega
      have e4 : x.f4.length = 0 := by omega
      have hh : hereB x = decide (x.f1 = 0) := by simp only [hereB, k4, if_true, e2, e4, decide_true, Bool.true_and, Bool.and_true, show ¬ (4 : Int) = 0 by omega, show ¬ (4 : Int) = 1 by omega, show ¬ (4 : Int) = 2 by omega, show ¬ (4 : Int) = 3 by omega, if_false]
      rw [hh]
      by_cases e1 : x.f1 = 0
      · simp only [e1, if_true, decide_true]
        rw [t0 e2] at ht
        exact Ev.bind ht Ev.some
      · simpa [e1] using Ev.some
    have b4 : (x.f0 == 4) = false := by simpa using k4
    simp only [spec_l2Here.j2, b4, Bool.false_eq_true, if_false, in_f, Option.bind_some]
    have e2 : x.f2.size = 0 := by omega
    by_cases k1 : x.f0 = 1
    · have e3 : x.f3.length = 0 := by omega
      have e4 : x.f4.length = 0 := by omega
      simp only [hereB, k1, if_true, listsB, e2, e3, e4, decide_true, Bool.true_and, Bool.and_true, show ¬ (1 : Int) = 0 by omega, if_false]
      exact Ev.some
    by_cases k2 : x.f0 = 2
    · have e3 : x.f3.length = 0 := by omega
      have e4 : x.f4.length = 0 := by omega
      simp only [hereB, k2, if_true, listsB, e2, e3, e4, decide_true, Bool.true_and, Bool.and_true, show ¬ (2 : Int) = 0 by omega, show ¬ (2 : Int) = 1 by omega, if_false]
      exact Ev.some
    by_cases k5 : x.f0 = 5
    · have hh : hereB x = keysB x 0 := by
        simp only [hereB, keysB, k5, if_true, e2, decide_true, Bool.true_and, show ¬ (5 : Int) = 0 by omega, show ¬ (5 : Int) = 1 by omega, show ¬ (5 : Int) = 2 by omega, show ¬ (5 : Int) = 3 by omega, show ¬ (5 : Int) = 4 by omega, if_false, List.drop_zero]
        cases decide (x.f1 = 0) <;> cases decide (x.f4.length = x.f3.length) <;> cases asc x.f4 <;> cases x.f4.all textB <;> rfl
      rw [hh]
      simp only [k5, show ¬ (5 : Int) = 1 by omega, show ¬ (5 : Int) = 2 by omega, if_true, if_false]
      rw [k5] at hk
      exact hk
    · have hh : hereB x = false := by simp only [hereB, k0, k1, k2, k3, k4, k5, if_false]
      rw [hh]
      simp only [k1, k2, k5, if_false]
      exact Ev.some
  have bad : ¬ ((x.f0 = 3 ∨ x.f2.size = 0) ∧ (x.f0 = 5 ∨ x.f4.length = 0) ∧ (x.f0 = 5 ∨ x.f0 = 4 ∨ x.f3.length = 0)) → hereB x = false := by
    intro h
    unfold hereB listsB
    by_cases k0 : x.f0 = 0
    · simp only [k0, if_true]; simp only [k0] at h; by_cases a : x.f2.size = 0 <;> by_cases b : x.f3.length = 0 <;> by_cases c : x.f4.length = 0 <;> simp [a, b, c] at h ⊢
    by_cases k1 : x.f0 = 1
    · simp only [k1] at h ⊢; by_cases a : x.f2.size = 0 <;> by_cases b : x.f3.length = 0 <;> by_cases c : x.f4.length = 0 <;> simp [a, b, c] at h ⊢
    by_cases k2 : x.f0 = 2
    · simp only [k2] at h ⊢; by_cases a : x.f2.size = 0 <;> by_cases b : x.f3.length = 0 <;> by_cases c : x.f4.length = 0 <;> simp [a, b, c] at h ⊢
    by_cases k3 : x.f0 = 3
    · simp only [k3] at h ⊢; by_cases b : x.f3.length = 0 <;> by_cases c : x.f4.length = 0 <;> simp [b, c] at h ⊢
    by_cases k4 : x.f0 = 4
    · simp only [k4] at h ⊢; by_cases a : x.f2.size = 0 <;> by_cases c : x.f4.length = 0 <;> simp [a, c] at h ⊢
    by_cases k5 : x.f0 = 5
    · simp only [k5] at h ⊢; by_cases a : x.f2.size = 0 <;> simp [a] at h ⊢
    · simp only [k0, k1, k2, k3, k4, k5, if_false]
  have all : ∀ b : Bool, (b = true ↔ ¬ ((x.f0 = 3 ∨ x.f2.size = 0) ∧ (x.f0 = 5 ∨ x.f4.length = 0) ∧ (x.f0 = 5 ∨ x.f0 = 4 ∨ x.f3.length = 0))) → Ev (fun k => spec_l2Here.j0 k b x.f0 x.f1 x.f2 x.f3 x.f4) (hereB x) := by
    intro b hb
    cases b with
    | true => exact fail (bad (hb.1 rfl))
    | false => exact go (Classical.byContradiction fun h => by have := hb.2 h; cases this)
  unfold spec_l2Here.f
  simp only [size_nil]
  by_cases k3 : x.f0 = 3
  · simp only [k3, if_true, show ¬ (3 : Int) = 5 by omega, show ¬ (3 : Int) = 4 by omega, if_false]
    rw [k3] at all
    by_cases c : (x.f4.length : Int) > 0
    · simp only [c, if_true]; exact all _ (by first | exact ⟨fun _ => by omega, fun _ => rfl⟩ | exact ⟨fun h => (Bool.false_ne_true h).elim, fun h => absurd (by omega) h⟩ | (rw [decide_eq_true_iff]; constructor <;> intro h <;> omega))
    · simp only [c, if_false]; exact all _ (by first | exact ⟨fun _ => by omega, fun _ => rfl⟩ | exact ⟨fun h => (Bool.false_ne_true h).elim, fun h => absurd (by omega) h⟩ | (rw [decide_eq_true_iff]; constructor <;> intro h <;> omega))
  · simp only [k3, if_false]
    by_cases a : x.f2.size = 0
    · simp only [a, if_true]
      by_cases k5 : x.f0 = 5
      · simp only [k5, if_true]
        rw [k5] at all
        exact all _ (by first | exact ⟨fun _ => by omega, fun _ => rfl⟩ | exact ⟨fun h => (Bool.false_ne_true h).elim, fun h => absurd (by omega) h⟩ | (rw [decide_eq_true_iff]; constructor <;> intro h <;> omega))
      · simp only [k5, if_false]
        by_cases c : (x.f4.length : Int) > 0
        · simp only [c, if_true]; exact all _ (by first | exact ⟨fun _ => by omega, fun _ => rfl⟩ | exact ⟨fun h => (Bool.false_ne_true h).elim, fun h => absurd (by omega) h⟩ | (rw [decide_eq_true_iff]; constructor <;> intro h <;> omega))
        · simp only [c, if_false]
          by_cases k4 : x.f0 = 4
          · simp only [k4, if_true]
            rw [k4] at all
            exact all _ (by first | exact ⟨fun _ => by omega, fun _ => rfl⟩ | exact ⟨fun h => (Bool.false_ne_true h).elim, fun h => absurd (by omega) h⟩ | (rw [decide_eq_true_iff]; constructor <;> intro h <;> omega))
          · simp only [k4, if_false]
            exact all _ (by first | exact ⟨fun _ => by omega, fun _ => rfl⟩ | exact ⟨fun h => (Bool.false_ne_true h).elim, fun h => absurd (by omega) h⟩ | (rw [decide_eq_true_iff]; constructor <;> intro h <;> omega))
    · simp only [a, if_false]
      exact all _ (by first | exact ⟨fun _ => by omega, fun _ => rfl⟩ | exact ⟨fun h => (Bool.false_ne_true h).elim, fun h => absurd (by omega) h⟩ | (rw [decide_eq_true_iff]; constructor <;> intro h <;> omega))
/-- What the two counts have in common. -/
def cmB (deep c m : Int) : Prop := (c = m ∧ 1 ≤ c ∧ c ≤ 80) ∨ (80 < c ∧ c ≤ 100 + 80 * (7 - deep) ∧ m = 81)
theorem count_end (x : S59) (deep c : Int) (j : Nat) (h : 80 < c) : Ev (fun k => spec_l2Count.l0 k deep c (j : Int) x.f0 x.f1 x.f2 x.f3 x.f4) c := by
  refine Ev.succ ?_
  simp only [spec_l2Count.l0, show ¬ c ≤ 80 by omega, if_false]
  by_cases h1 : (j : Int) < (x.f3.length : Int)
  · simp only [h1, if_true]
    exact Ev.some
  · simp only [h1, if_false]
    exact Ev.some
theorem count_l (x : S59) (hl : x.f3.length ≤ 9223372036854775807) (deep : Int) (d1 : 1 ≤ deep) (d6 : deep ≤ 6)
    (ih : ∀ z ∈ x.f3, ∃ c m, Ev (fun k => spec_l2Count.f k z.f0 z.f1 z.f2 z.f3 z.f4 (deep + 1)) c ∧ Ev (fun k => impl_Val_measure.f k z.f0 z.f1 z.f2 z.f3 z.f4 (deep + 1)) m ∧ cmB (deep + 1) c m) (d : Nat) : ∀ (i : Nat) (n : Int), i + d = x.f3.length → 1 ≤ n → n ≤ 80 →
    ∃ c m, Ev (fun k => spec_l2Count.l0 k deep n (i : Int) x.f0 x.f1 x.f2 x.f3 x.f4) c ∧ Ev (fun k => impl_Val_measure.l0 k deep n x.f3 (x.f3.length : Int) (i : Int)) m ∧ cmB deep c m := by
  induction d with
  | zero =>
    intro i n hi n1 n80
    have h1 : ¬ (i : Int) < (x.f3.length : Int) := by omega
    refine ⟨n, n, ?_, ?_, .inl ⟨rfl, n1, n80⟩⟩
    · refine Ev.succ ?_
      simp only [spec_l2Count.l0, h1, if_false]
      exact Ev.some
    · refine Ev.succ ?_
      simp only [impl_Val_measure.l0, h1, if_false]
      exact Ev.some
  | succ d ihd =>
    intro i n hi n1 n80
    have hlt : i < x.f3.length := by omega
    have h1 : (i : Int) < (x.f3.length : Int) := by omega
    have h2 : (0 : Int) ≤ (i : Int) := by omega
    have h3 := next_i hlt hl
    have hw : wrap64 (deep + 1) = deep + 1 := wrap64_id (by omega) (by omega)
    have hg : rd_T59 x.f3 (i : Int) = x.f3[i] := rdD_cast _ hlt
    obtain ⟨c', m', hc, hm, hcm⟩ := ih _ (List.getElem_mem hlt)
    have hcb : 1 ≤ c' ∧ c' ≤ 580 ∧ 1 ≤ m' ∧ m' ≤ 81 := by unfold cmB at hcm; omega
    have wc : wrap64 (n + c') = n + c' := wrap64_id (by omega) (by omega)
    have wm : wrap64 (n + m') = n + m' := wrap64_id (by omega) (by omega)
    have step : ∀ r, Ev (fun k => spec_l2Count.l0 k deep (n + c') ((i + 1 : Nat) : Int) x.f0 x.f1 x.f2 x.f3 x.f4) r → Ev (fun k => spec_l2Count.l0 k deep n (i : Int) x.f0 x.f1 x.f2 x.f3 x.f4) r := by
      intro r hr
      refine Ev.succ ?_
      simp only [spec_l2Count.l0, h1, h2, h3, n80, if_true, hg, hw]
      refine Ev.bind hc ?_
      simp only [wc]
      exact hr
    by_cases hs : n + m' > 80
    · refine ⟨n + c', 81, step _ (count_end x deep _ (i + 1) (by unfold cmB at hcm; omega)), ?_, .inr (by unfold cmB at hcm; omega)⟩
      refine Ev.succ ?_
      simp only [impl_Val_measure.l0, h1, h2, h3, if_true, hg, hw]
      refine Ev.bind hm ?_
      simp only [wm, hs, if_true]
      exact Ev.some
    · have e : c' = m' := by unfold cmB at hcm; omega
      subst e
      obtain ⟨c, m, hc2, hm2, hcm2⟩ := ihd (i + 1) (n + c') (by omega) (by omega) (by omega)
      refine ⟨c, m, step _ hc2, ?_, hcm2⟩
      refine Ev.succ ?_
      simp only [impl_Val_measure.l0, h1, h2, h3, if_true, hg, hw]
      refine Ev.bind hm ?_
      simp only [wm, hs, if_false]
      exact hm2
theorem count (x : S59) (hf : fitVal x) : ∀ deep : Int, 1 ≤ deep → deep ≤ 7 →
    ∃ c m, Ev (fun k => spec_l2Count.f k x.f0 x.f1 x.f2 x.f3 x.f4 deep) c ∧ Ev (fun k => impl_Val_measure.f k x.f0 x.f1 x.f2 x.f3 x.f4 deep) m ∧ cmB deep c m := by
  induction hf with
  | mk x o3 g3 o4 g4 o2 ih =>
    intro deep d1 d7
    have bad : ∀ (g : Nat → Option Int) (g' : Nat → Option Int), Ev (fun k => spec_l2Count.j0 k deep true x.f0 x.f1 x.f2 x.f3 x.f4) 100 ∧ Ev (fun k => impl_Val_measure.j0 k deep true x.f0 x.f1 x.f2 x.f3 x.f4) 81 := by
      intro _ _
      refine ⟨?_, ?_⟩
      · refine Ev.succ ?_
        simp only [spec_l2Count.j0, if_true]
        exact Ev.some
      · refine Ev.succ ?_
        simp only [impl_Val_measure.j0, if_true]
        exact Ev.some
    obtain ⟨b1, b2⟩ := bad (fun _ => none) (fun _ => none)
    by_cases h7 : deep > 6
    · refine ⟨100, 81, ?_, ?_, .inr ⟨by omega, by omega, rfl⟩⟩
      · refine Ev.succ ?_
        simp only [spec_l2Count.f, h7, if_true]
        exact b1
      · refine Ev.succ ?_
        simp only [impl_Val_measure.f, h7, if_true]
        exact b2
    have hs := spec_here x o2 o4 g4
    have hi := impl_here x o2 o4 g4
    cases hq : hereB x with
    | false =>
      rw [hq] at hs hi
      refine ⟨100, 81, ?_, ?_, .inr ⟨by omega, by omega, rfl⟩⟩
      · refine Ev.succ ?_
        simp only [spec_l2Count.f, h7, if_false]
        refine Ev.bind hs ?_
        simp only [Bool.not_false]
        exact b1
      · refine Ev.succ ?_
        simp only [impl_Val_measure.f, h7, if_false]
        refine Ev.bind hi ?_
        simp only [Bool.not_false]
        exact b2
    | true =>
      rw [hq] at hs hi
      obtain ⟨c, m, hc, hm, hcm⟩ := count_l x o3 deep d1 (by omega) (fun z hz => ih z hz (deep + 1) (by omega) (by omega)) x.f3.length 0 1 (by omega) (by omega) (by omega)
      refine ⟨c, m, ?_, ?_, hcm⟩
      · refine Ev.succ ?_
        simp only [spec_l2Count.f, h7, if_false]
        refine Ev.bind hs ?_
        simp only [Bool.not_true]
        refine Ev.succ ?_
        simp only [spec_l2Count.j0, Bool.false_eq_true, if_false]
        refine Ev.succ ?_
        simp only [spec_l2Count.j1]
        exact hc
      · refine Ev.succ ?_
        simp only [impl_Val_measure.f, h7, if_false]
        refine Ev.bind hi ?_
        simp only [Bool.not_true]
        refine Ev.succ ?_
        simp only [impl_Val_measure.j0, Bool.false_eq_true, if_false]
        refine Ev.succ ?_
        simp only [impl_Val_measure.j1]
        exact hm
theorem valOk (x : S59) (hf : fitVal x) : ∃ b, Ev (fun k => spec_ValOk.f k x.f0 x.f1 x.f2 x.f3 x.f4) b ∧ Ev (fun k => impl_ValOk.f k x.f0 x.f1 x.f2 x.f3 x.f4) b := by
  obtain ⟨c, m, hc, hm, hcm⟩ := count x hf 1 (by omega) (by omega)
  refine ⟨decide (c ≤ 80), ?_, ?_⟩
  · unfold spec_ValOk.f
    exact Ev.bind hc Ev.some
  · unfold impl_ValOk.f
    refine Ev.bind hm (Ev.cast Ev.some ?_)
    rw [decide_eq_decide]
    unfold cmB at hcm
    omega

end Go.Proofs.Ytfbbagddhfeefaa.Pure
