/- What SameVal comes to, of the reference and of the program. -/
import Derived.Test.YtfbbagddhfeefaaGHPureVal
import Derived.Test.YtfbbagddhfeefaaGHPureSameVer
import Derived.Test.YtfbbagddhfeefaaPGHx2
import Derived.Test.YtfbbagddhfeefaaPGHx3
set_option linter.unusedVariables false
set_option linter.unusedSimpArgs false
namespace Go.Proofs.Ytfbbagddhfeefaa.Pure
open Go.RowKit Go.Proofs.Ytfbbagddhfeefaa.PGH Go.Proofs.YtfbbagddhfeefaaW.PrintWords Go.Proofs.YtfbbagddhfeefaaW.PrintLast Go.Proofs.Ytfbbagddhfeefaa.Aux

theorem if_pos_fun {α : Type} {c : Prop} [Decidable c] {g f : Nat → α} (h : c) : (fun k => if c then g k else f k) = g := by simp only [h, if_true]
theorem if_neg_fun {α : Type} {c : Prop} [Decidable c] {g f : Nat → α} (h : ¬ c) : (fun k => if c then g k else f k) = f := by simp only [h, if_false]
theorem tf (p : Prop) : ∃ b : Bool, (b = true ↔ p) := by
  by_cases h : p
  · exact ⟨true, by simp [h]⟩
  · exact ⟨false, by simp [h]⟩
theorem bfalse {b : Bool} {p : Prop} (hb : b = true ↔ p) (h : ¬ p) : b = false := by
  cases b with
  | false => rfl
  | true => exact absurd (hb.1 rfl) h
theorem btrue {b : Bool} {p : Prop} (hb : b = true ↔ p) (h : p) : b = true := hb.2 h

theorem spec_sameVal_l (x y : S59) (hl : x.f3.length ≤ 9223372036854775807) (hlen : x.f3.length = y.f3.length)
    (ih : ∀ z ∈ x.f3, ∀ (u : S59) (b : Bool), (b = true ↔ z = u) → Ev (fun k => spec_SameVal.f k z.f0 z.f1 z.f2 z.f3 z.f4 u.f0 u.f1 u.f2 u.f3 u.f4) b) (d : Nat) : ∀ (i : Nat) (b : Bool), i + d = x.f3.length → (b = true ↔ x.f3.drop i = y.f3.drop i) →
    Ev (fun k => spec_SameVal.l0 k (i : Int) x.f0 x.f1 x.f2 x.f3 x.f4 y.f0 y.f1 y.f2 y.f3 y.f4) b := by
  induction d with
  | zero =>
    intro i b hi hb
    have h1 : ¬ (i : Int) < (x.f3.length : Int) := by omega
    refine Ev.succ ?_
    rw [List.drop_eq_nil_of_le (by omega), List.drop_eq_nil_of_le (by omega)] at hb
    rw [btrue hb rfl]
    simp only [spec_SameVal.l0, h1, if_false]
    exact Ev.some
  | succ d ihd =>
    intro i b hi hb
    have hlt : i < x.f3.length := by omega
    have hly : i < y.f3.length := by omega
    have h1 : (i : Int) < (x.f3.length : Int) := by omega
    have h1y : (i : Int) < (y.f3.length : Int) := by omega
    have h2 : (0 : Int) ≤ (i : Int) := by omega
    have h3 := next_i hlt hl
    have hg : rd_T59 x.f3 (i : Int) = x.f3[i] := rdD_cast _ hlt
    have hgy : rd_T59 y.f3 (i : Int) = y.f3[i] := rdD_cast _ hly
    obtain ⟨b1, hb1⟩ := tf (x.f3[i] = y.f3[i])
    rw [drop_get hlt, drop_get hly, List.cons.injEq] at hb
    refine Ev.succ ?_
    simp only [spec_SameVal.l0, h1, h1y, h2, h3, if_true, hg, hgy]
    refine Ev.bind (ih _ (List.getElem_mem hlt) _ b1 hb1) ?_
    cases b1 with
    | true =>
      simp only [if_true]
      exact ihd (i + 1) b (by omega) (by rw [hb]; simp [hb1.1 rfl])
    | false =>
      simp only [Bool.false_eq_true, if_false]
      rw [bfalse hb (fun e => by have := hb1.2 e.1; cases this)]
      exact Ev.some
theorem spec_sameVal (x : S59) (hf : fitVal x) : ∀ (y : S59) (b : Bool), (b = true ↔ x = y) → Ev (fun k => spec_SameVal.f k x.f0 x.f1 x.f2 x.f3 x.f4 y.f0 y.f1 y.f2 y.f3 y.f4) b := by
  induction hf with
  | mk x o3 g3 o4 g4 o2 ih =>
    intro y b hb
    have fail : ¬ x = y → Ev (fun k => spec_SameVal.j0 k true x.f0 x.f1 x.f2 x.f3 x.f4 y.f0 y.f1 y.f2 y.f3 y.f4) b := by
      intro h
      rw [bfalse hb h]
      refine Ev.succ ?_
      simp only [spec_SameVal.j0, if_true]
      exact Ev.some
    refine Ev.succ ?_
    simp only [spec_SameVal.f]
    by_cases e0 : x.f0 = y.f0
    case neg => simp only [e0, if_false]; exact fail (fun e => e0 (by rw [e]))
    rw [if_pos_fun e0]
    by_cases e1 : x.f1 = y.f1
    case neg => rw [if_neg_fun e1]; exact fail (fun e => e1 (by rw [e]))
    rw [if_pos_fun e1]
    by_cases e2 : x.f2.toList = y.f2.toList
    case neg => rw [if_neg_fun e2]; exact fail (fun e => e2 (by rw [e]))
    rw [if_pos_fun e2]
    by_cases e3 : (x.f3.length : Int) = (y.f3.length : Int)
    case neg => rw [if_neg_fun e3]; exact fail (fun e => e3 (by rw [e]))
    rw [if_pos_fun e3]
    refine Ev.bind (sameTexts x.f4 y.f4 o4) ?_
    by_cases e4 : x.f4 = y.f4
    case neg => simp only [e4, decide_false, Bool.not_false]; exact fail (fun e => e4 (by rw [e]))
    rw [decide_eq_true e4]
    simp only [Bool.not_true]
    refine Ev.succ ?_
    simp only [spec_SameVal.j0, Bool.false_eq_true, if_false]
    refine Ev.succ ?_
    simp only [spec_SameVal.j1]
    refine spec_sameVal_l x y o3 (by omega) ih x.f3.length 0 b (by omega) ?_
    rw [hb, List.drop_zero, List.drop_zero]
    constructor
    · intro e; rw [e]
    · intro e
      cases x with | mk a0 a1 a2 a3 a4 =>
      cases y with | mk b0 b1 b2 b3 b4 =>
      simp only at e0 e1 e2 e4 e
      rw [e0, e1, toList_inj.1 e2, e4, e]

theorem equalFunc_l [impl_SameVal.Rec] (l m : List S59) (hl : l.length ≤ 9223372036854775807) (hlen : l.length = m.length)
    (hF : ∀ k, ∀ z ∈ l, ∀ u ∈ m, ∀ b : Bool, (b = true ↔ z = u) → impl_SameVal.Rec.f k z.f0 z.f1 z.f2 z.f3 z.f4 u.f0 u.f1 u.f2 u.f3 u.f4 = some b) (d : Nat) : ∀ (i k : Nat) (b : Bool), i + d = l.length → d < k → (b = true ↔ l.drop i = m.drop i) →
    impl_Val.l0 k m l (l.length : Int) (i : Int) = some b := by
  induction d with
  | zero =>
    intro i k b hi hk hb
    obtain ⟨k, rfl⟩ : ∃ j, k = j + 1 := ⟨k - 1, by omega⟩
    have h1 : ¬ (i : Int) < (l.length : Int) := by omega
    rw [List.drop_eq_nil_of_le (by omega), List.drop_eq_nil_of_le (by omega)] at hb
    rw [btrue hb rfl]
    simp only [impl_Val.l0, h1, if_false]
  | succ d ih =>
    intro i k b hi hk hb
    obtain ⟨k, rfl⟩ : ∃ j, k = j + 1 := ⟨k - 1, by omega⟩
    have hlt : i < l.length := by omega
    have hly : i < m.length := by omega
    have h1 : (i : Int) < (l.length : Int) := by omega
    have h1y : (i : Int) < (m.length : Int) := by omega
    have h2 : (0 : Int) ≤ (i : Int) := by omega
    have h3 := next_i hlt hl
    have hg : rd_T59 l (i : Int) = l[i] := rdD_cast _ hlt
    have hgy : rd_T59 m (i : Int) = m[i] := rdD_cast _ hly
    obtain ⟨b1, hb1⟩ := tf (l[i] = m[i])
    rw [drop_get hlt, drop_get hly, List.cons.injEq] at hb
    simp only [impl_Val.l0, h1, h1y, h2, h3, if_true, hg, hgy]
    rw [hF k l[i] (List.getElem_mem hlt) m[i] (List.getElem_mem hly) b1 hb1]
    simp only [Option.bind_some]
    cases b1 with
    | true =>
      simp only [if_true]
      exact ih (i + 1) k b (by omega) (by omega) (by rw [hb]; simp [hb1.1 rfl])
    | false =>
      simp only [Bool.false_eq_true, if_false]
      rw [bfalse hb (fun e => by have := hb1.2 e.1; cases this)]
theorem impl_sameVal (x : S59) (hf : fitVal x) : ∀ (y : S59) (b : Bool), (b = true ↔ x = y) → Ev (fun k => impl_SameVal.f k x.f0 x.f1 x.f2 x.f3 x.f4 y.f0 y.f1 y.f2 y.f3 y.f4) b := by
  induction hf with
  | mk x o3 g3 o4 g4 o2 ih =>
    intro y b hb
    obtain ⟨K, hK⟩ := all_mem x.f3 (P := fun z k => ∀ u ∈ y.f3, ∀ b : Bool, (b = true ↔ z = u) → impl_SameVal.f k z.f0 z.f1 z.f2 z.f3 z.f4 u.f0 u.f1 u.f2 u.f3 u.f4 = some b) (fun z hz =>
      all_mem y.f3 (P := fun u k => ∀ b : Bool, (b = true ↔ z = u) → impl_SameVal.f k z.f0 z.f1 z.f2 z.f3 z.f4 u.f0 u.f1 u.f2 u.f3 u.f4 = some b) (fun u hu => by
        obtain ⟨b0, hb0⟩ := tf (z = u)
        obtain ⟨K, h⟩ := ih z hz u b0 hb0
        refine ⟨K, fun k hk b hb => ?_⟩
        rw [show b = b0 from Bool.eq_iff_iff.2 (hb.trans hb0.symm)]
        exact h k hk))
    obtain ⟨bl, hbl⟩ := tf (x.f3 = y.f3)
    have hS : Ev (fun k => @impl_Val.f ⟨fun _ => impl_SameVal.f k⟩ k x.f3 y.f3) bl :=
      ⟨max K (x.f3.length + 2), fun k hk => by
        show @impl_Val.f ⟨fun _ => impl_SameVal.f k⟩ k x.f3 y.f3 = _
        unfold impl_Val.f
        by_cases e : (x.f3.length : Int) = (y.f3.length : Int)
        · rw [if_pos e]
          obtain ⟨m, rfl⟩ : ∃ m, k = m + 1 := ⟨k - 1, by omega⟩
          simp only [impl_Val.j0]
          exact @equalFunc_l ⟨fun _ => impl_SameVal.f (m + 1)⟩ x.f3 y.f3 o3 (by omega) (fun _ z hz u hu b hb => hK (m + 1) (by omega) z hz u hu b hb) x.f3.length 0 m bl (by omega) (by omega) (by simpa using hbl)
        · rw [if_neg e, bfalse hbl (fun h => e (by rw [h]))]⟩
    have fail : ¬ x = y → b = false := fun h => bfalse hb h
    refine Ev.succ ?_
    simp only [impl_SameVal.f]
    by_cases e0 : x.f0 = y.f0
    case neg => rw [if_neg_fun e0, fail (fun e => e0 (by rw [e]))]; exact Ev.some
    rw [if_pos_fun e0]
    by_cases e1 : x.f1 = y.f1
    case neg => rw [if_neg_fun e1, fail (fun e => e1 (by rw [e]))]; exact Ev.some
    rw [if_pos_fun e1]
    by_cases e2 : x.f2.toList = y.f2.toList
    case neg => rw [if_neg_fun e2, fail (fun e => e2 (by rw [e]))]; exact Ev.some
    rw [if_pos_fun e2]
    refine Ev.bind (slicesEqual x.f4 y.f4 o4) ?_
    by_cases e4 : x.f4 = y.f4
    case neg =>
      simp only [e4, decide_false, Bool.false_eq_true, if_false]
      rw [fail (fun e => e4 (by rw [e]))]
      exact Ev.some
    rw [decide_eq_true e4]
    simp only [if_true]
    refine Ev.bind hS ?_
    refine Ev.cast Ev.some ?_
    refine Bool.eq_iff_iff.2 (hbl.trans (Iff.trans ?_ hb.symm))
    constructor
    · intro e
      cases x with | mk a0 a1 a2 a3 a4 =>
      cases y with | mk b0 b1 b2 b3 b4 =>
      simp only at e0 e1 e2 e4 e
      rw [e0, e1, toList_inj.1 e2, e4, e]
    · intro e; rw [e]
end Go.Proofs.Ytfbbagddhfeefaa.Pure
