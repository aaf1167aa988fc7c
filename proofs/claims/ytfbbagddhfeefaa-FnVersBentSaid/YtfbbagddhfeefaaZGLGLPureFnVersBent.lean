/- The law FnVersBent's one statement. -/
import Derived.Test.YtfbbagddhfeefaaZGLGLPureAllFnVersBent
import Derived.Test.YtfbbagddhfeefaaZGLSGLFnVersBent
import Derived.Test.YtfbbagddhfeefaaZGLPGLx9
set_option linter.unusedVariables false
set_option linter.unusedSimpArgs false
namespace Go.Proofs.Ytfbbagddhfeefaa.Pure
open Go.RowKit Go.Proofs.Ytfbbagddhfeefaa.PGL Go.Proofs.YtfbbagddhfeefaaW.PrintWords Go.Proofs.YtfbbagddhfeefaaW.PrintLast Go.Proofs.Ytfbbagddhfeefaa.Aux

theorem Few.len {n : Nat} {l : List ByteArray} (h : Few n l) (hn : n ≤ 1000) : l.length ≤ 9223372036854775807 := by have := h.1; omega
theorem Few.short {n : Nat} {l : List ByteArray} (h : Few n l) : ∀ x ∈ l, x.size ≤ 9223372036854775807 := fun x hx => by have := h.2 x hx; omega
theorem draw_less (l : List Int) (hl : l.length ≤ 1048576) : Got (fun k => spec_DrawLessVer.f k l) fun r => Few 4 r.2.2.2.1 ∧ Few 4 r.2.2.2.2.2.2.2 := by
  unfold spec_DrawLessVer.f
  refine Got.bind (draw_new l (by omega)) fun r0 h0 => ?_
  have hc := cur_new (by omega) h0
  refine Got.bind (draw_ver _ _ _ hc) fun r1 h1 => ?_
  refine Got.bind (draw_ver _ _ _ h1.2) fun r2 h2 => ?_
  refine Got.bind (draw_once _ _ _ _ (by omega) (by omega) h2.2) fun r3 h3 => ?_
  refine Got.cond (fun _ => ?_) (fun _ => Got.some ⟨h1.1.mono (by omega), h2.1.mono (by omega)⟩)
  rw [copy_ver _ _ _ _ (by have := h1.1.1; omega)]
  simp only [Option.bind_some]
  exact Got.bind (draw_ver _ _ _ h3) fun r4 h4 => Got.some ⟨h1.1.mono (by omega), h4.1.mono (by omega)⟩
theorem draw_same (l : List Int) (hl : l.length ≤ 1048576) : Got (fun k => spec_DrawSameVer.f k l) fun r => Few 4 r.2.2.2.1 ∧ Few 4 r.2.2.2.2.2.2.2 := by
  unfold spec_DrawSameVer.f
  refine Got.bind (draw_new l (by omega)) fun r0 h0 => ?_
  have hc := cur_new (by omega) h0
  refine Got.bind (draw_any _ _ _ hc) fun r1 h1 => ?_
  refine Got.bind (draw_once _ _ _ _ (by omega) (by omega) h1.2) fun r3 h3 => ?_
  refine Got.cond (fun _ => ?_) (fun _ => ?_)
  · rw [copy_ver _ _ _ _ (by have := h1.1.1; omega)]
    simp only [Option.bind_some]
    exact Got.some ⟨h1.1, h1.1⟩
  · exact Got.bind (draw_any _ _ _ h3) fun r4 h4 => Got.some ⟨h1.1, h4.1⟩
theorem draw_verOk (l : List Int) (hl : l.length ≤ 1048576) : Got (fun k => spec_DrawVerOk.f k l) fun r => Few 4 r.2.2.2 := by
  unfold spec_DrawVerOk.f
  refine Got.bind (draw_new l (by omega)) fun r0 h0 => ?_
  have hc := cur_new (by omega) h0
  exact Got.bind (draw_any _ _ _ hc) fun r1 h1 => Got.some h1.1
theorem sameV_self (a b c : Int) (l : List ByteArray) : sameV a b c l a b c l = true := by unfold sameV; simp
theorem lessV_pre (a b c : Int) (l : List ByteArray) (h : ¬ l.length = 0) : lessV a b c l a b c [] = true ∧ lessV a b c [] a b c l = false := by
  cases l with
  | nil => exact absurd rfl h
  | cons x r => simp [lessV, lessP]
theorem FnVersBent_big (l : List Int) (hs : (l.length : Int) > 1048576) : ∃ k, laws_FnVersBentA.f k l = some true := by
  refine Ev.get ?_
  unfold laws_FnVersBentA.f laws_big.f
  simp only [Option.bind_some]
  exact Ev.yes' (decide_eq_true hs) Ev.some
theorem FnVersBent : laws_FnVersBent.Pure2 := by
  intro l hl
  have even : (∃ k, laws_FnVersBentA.f k l = some true) → ∃ k, laws_FnVersBent.f k l = some true := fun ⟨k, hk⟩ => ⟨2 * k, by
    unfold laws_FnVersBent.f
    rw [if_pos (by omega), show 2 * k / 2 = k by omega]
    exact hk⟩
  have odd : (∃ k, laws_FnVersBentB.f k l = some true) → ∃ k, laws_FnVersBent.f k l = some true := fun ⟨k, hk⟩ => ⟨2 * k + 1, by
    unfold laws_FnVersBent.f
    rw [if_neg (by omega), show (2 * k + 1) / 2 = k by omega]
    exact hk⟩
  by_cases hs : (l.length : Int) > 1048576
  · exact even (FnVersBent_big l hs)
  have hs' : l.length ≤ 1048576 := by omega
  obtain ⟨p, ep, hp1, hp2⟩ := draw_less l hs'
  obtain ⟨q, eq, hq1, hq2⟩ := draw_same l hs'
  obtain ⟨v, ev, hv⟩ := draw_verOk l hs'
  by_cases h0 : (v.2.2.2.length : Int) = 0
  · refine even (Ev.get ?_)
    unfold laws_FnVersBentA.f laws_big.f
    simp only [Option.bind_some]
    refine Ev.no' (by rw [decide_eq_true_eq]; omega) ?_
    refine Ev.succ ?_
    simp only [laws_FnVersBentA.j0, Option.bind_some]
    refine Ev.bind ep (Ev.bind eq (Ev.bind ev ?_))
    refine Ev.bind (impl_lessV _ _ _ _ _ _ _ _ (hp1.len (by omega)) hp1.short hp2.short) (Ev.bind (spec_less _ _ _ _ _ _ _ _ (hp1.len (by omega)) hp1.short hp2.short) ?_)
    refine Ev.yes' (by simp) ?_
    refine Ev.bind (impl_same _ _ _ _ _ _ _ _ (hq1.len (by omega))) (Ev.bind (spec_same _ _ _ _ _ _ _ _ (hq1.len (by omega))) ?_)
    refine Ev.yes' (by simp) ?_
    refine Ev.bind (impl_ver _ _ _ _ (hv.len (by omega)) hv.short) (Ev.bind (spec_ver _ _ _ _ (hv.len (by omega)) hv.short) ?_)
    refine Ev.yes' (by simp) ?_
    refine Ev.yes' h0 ?_
    refine Ev.bind (impl_same _ _ _ _ _ _ _ _ (hv.len (by omega))) ?_
    exact Ev.cast Ev.some (sameV_self _ _ _ _)
  · refine odd (Ev.get ?_)
    unfold laws_FnVersBentB.f laws_big.f
    simp only [Option.bind_some]
    refine Ev.no' (by rw [decide_eq_true_eq]; omega) ?_
    refine Ev.succ ?_
    simp only [laws_FnVersBentB.j0, Option.bind_some]
    refine Ev.bind ep (Ev.bind eq (Ev.bind ev ?_))
    refine Ev.bind (impl_lessV _ _ _ _ _ _ _ _ (hp1.len (by omega)) hp1.short hp2.short) (Ev.bind (spec_less _ _ _ _ _ _ _ _ (hp1.len (by omega)) hp1.short hp2.short) ?_)
    refine Ev.yes' (by simp) ?_
    refine Ev.bind (impl_same _ _ _ _ _ _ _ _ (hq1.len (by omega))) (Ev.bind (spec_same _ _ _ _ _ _ _ _ (hq1.len (by omega))) ?_)
    refine Ev.yes' (by simp) ?_
    refine Ev.bind (impl_ver _ _ _ _ (hv.len (by omega)) hv.short) (Ev.bind (spec_ver _ _ _ _ (hv.len (by omega)) hv.short) ?_)
    refine Ev.yes' (by simp) ?_
    refine Ev.no' h0 ?_
    have hlp := lessV_pre v.1 v.2.1 v.2.2.1 v.2.2.2 (by omega)
    refine Ev.bind (impl_lessV _ _ _ _ _ _ _ _ (hv.len (by omega)) hv.short (by simp)) ?_
    refine Ev.yes' hlp.1 ?_
    refine Ev.bind (impl_lessV _ _ _ _ _ _ _ _ (by simp) (by simp) hv.short) ?_
    refine Ev.no' (by rw [hlp.2]; simp) ?_
    refine Ev.bind (impl_same _ _ _ _ _ _ _ _ (hv.len (by omega))) ?_
    exact Ev.cast Ev.some (sameV_self _ _ _ _)
end Go.Proofs.Ytfbbagddhfeefaa.Pure
