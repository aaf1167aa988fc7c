/- The law FnTexts's one statement: a text that is put comes back; names, and what is plain, are as the reference has it. -/
import Derived.Test.YtfbbagddhfeefaaSGFFnTexts
import Derived.Test.YtfbbagddhfeefaaGFPureDraw
import Derived.Test.YtfbbagddhfeefaaGFPureNameOk
import Derived.Test.YtfbbagddhfeefaaGFPurePlainOk
import Derived.Test.YtfbbagddhfeefaaGFPureGetText
import Derived.Test.YtfbbagddhfeefaaGFPurePutText
import Derived.Test.YtfbbagddhfeefaaPGFx3
set_option linter.unusedVariables false
set_option linter.unusedSimpArgs false
namespace Go.Proofs.Ytfbbagddhfeefaa.Pure
open Go.RowKit Go.Proofs.Ytfbbagddhfeefaa.PGF Go.Proofs.YtfbbagddhfeefaaW.PrintWords Go.Proofs.YtfbbagddhfeefaaW.PrintLast Go.Proofs.Ytfbbagddhfeefaa.Aux

theorem draw_put (l : List Int) (hl : l.length ≤ 1048576) : Got (fun k => spec_DrawPutText.f k l) fun r => (r.1.length ≤ 3 ∧ ∀ z ∈ r.1, 0 ≤ z ∧ z ≤ 255) ∧ r.2.size ≤ 60001 := by
  unfold spec_DrawPutText.f
  refine Got.bind (draw_new l (by omega)) fun r hr => ?_
  have hc := cur_new (by omega) hr
  refine Got.bind (draw_text _ _ _ hc) fun r2 hr2 => ?_
  refine Got.bind (draw_once _ _ _ _ (by omega) (by omega) hr2.2) fun r3 hr3 => ?_
  refine Got.cond (fun _ => ?_) (fun _ => ?_)
  · refine Got.bind (draw_below _ _ _ _ (by omega) (by omega) hr3) fun r4 hr4 => ?_
    obtain ⟨⟨x0, x1⟩, hc4⟩ := hr4
    have hw : wrap64 (60000 + r4.1) = 60000 + r4.1 := wrap64_id (by omega) (by omega)
    simp only [hw, show (0 : Int) ≤ 60000 + r4.1 by omega, show (60000 + r4.1).toNat ≤ 281474976710656 by omega, if_true]
    refine Got.bind (draw_below _ _ _ _ (by omega) (by omega) hc4) fun r5 hr5 => ?_
    refine Got.bind (draw_bytes _ _ _ _ hr5.1.1 (by omega) hr5.2) fun r6 hr6 => Got.some ?_
    refine ⟨⟨by have := hr6.1.1; have := hr5.1.2; show r6.1.length ≤ 3; omega, hr6.1.2⟩, ?_⟩
    show (strOfNums _).size ≤ 60001
    rw [strOfNums_size, List.length_replicate]
    omega
  · refine Got.bind (draw_below _ _ _ _ (by omega) (by omega) hr3) fun r5 hr5 => ?_
    refine Got.bind (draw_bytes _ _ _ _ hr5.1.1 (by omega) hr5.2) fun r6 hr6 => Got.some ?_
    refine ⟨⟨by have := hr6.1.1; have := hr5.1.2; show r6.1.length ≤ 3; omega, hr6.1.2⟩, ?_⟩
    show r2.1.size ≤ 60001
    have := hr2.1
    omega
theorem draw_name (l : List Int) (hl : l.length ≤ 1048576) : Got (fun k => spec_DrawNameOk.f k l) fun r => r.size ≤ 11 := by
  unfold spec_DrawNameOk.f
  refine Got.bind (draw_new l (by omega)) fun r hr => ?_
  have hc := cur_new (by omega) hr
  exact Got.bind (draw_text _ _ _ hc) fun r2 hr2 => Got.some hr2.1
theorem draw_plain (l : List Int) (hl : l.length ≤ 1048576) : Got (fun k => spec_DrawPlainOk.f k l) fun r => r.1.size ≤ 11 := by
  unfold spec_DrawPlainOk.f
  refine Got.bind (draw_new l (by omega)) fun r hr => ?_
  have hc := cur_new (by omega) hr
  refine Got.bind (draw_text _ _ _ hc) fun r2 hr2 => ?_
  exact Got.bind (draw_int _ _ _ _ (by simp) (by simp) hr2.2) fun r3 hr3 => Got.some hr2.1

theorem name_same (s : ByteArray) (hs : s.size ≤ 11) : ∃ q, Ev (fun k => impl_NameOk.f k s) q ∧ Ev (fun k => spec_NameOk.f k s) q :=
  ⟨_, impl_name s (by omega) s.size 0 (by omega), spec_name s (by omega) s.size 0 (by omega)⟩
theorem plain_same (s : ByteArray) (m : Int) (hs : s.size ≤ 11) : ∃ q, Ev (fun k => impl_PlainOk.f k s m) q ∧ Ev (fun k => spec_PlainOk.f k s m) q :=
  ⟨_, impl_plain s m (by omega) s.size 0 (by omega), spec_plain s m (by omega) s.size 0 (by omega)⟩

theorem byte_wf {z : Int} (h : 0 ≤ z ∧ z ≤ 255) : (Lit.int .u8 z).wf = true := by
  simp [Lit.wf, IntKind.min, IntKind.max, IntKind.signed, IntKind.bits]
  omega
theorem str_bytes (s : ByteArray) : strOfNums (bytesOf s) = s := by
  apply toList_inj.1
  rw [toList_data, toList_data, strOfNums_data]
  unfold bytesOf
  rw [List.map_map]
  have : ((fun n : Int => UInt8.ofNat n.toNat) ∘ fun b : UInt8 => (b.toNat : Int)) = id := by
    funext b
    simp
  rw [this, List.map_id]
theorem put_wf (b : List Int) (s : ByteArray) (hb : ∀ z ∈ b, 0 ≤ z ∧ z ≤ 255) (h : ¬ (s.size : Int) > 60000) : ∀ z ∈ putB b s, (Lit.int .u8 z).wf = true := by
  intro z hz
  unfold putB at hz
  rw [if_neg h] at hz
  apply byte_wf
  simp only [List.mem_append, List.mem_cons, List.not_mem_nil, or_false] at hz
  rcases hz with (hz | hz | hz) | hz
  · exact hb z hz
  · rw [hz]; omega
  · rw [hz]; omega
  · unfold bytesOf at hz
    obtain ⟨c, _, rfl⟩ := List.mem_map.1 hz
    have := c.toNat_lt
    omega
theorem rd_append_at (a c : List Int) (j : Int) (hj : 0 ≤ j) (i : Int) (hi : i = (a.length : Int) + j) : rd (a ++ c) i = rd c j := by
  subst hi
  obtain ⟨m, rfl⟩ := Int.eq_ofNat_of_zero_le hj
  unfold rd
  rw [List.getD_eq_getElem?_getD, List.getD_eq_getElem?_getD]
  rw [show ((a.length : Int) + (m : Int)).toNat = a.length + m by omega, List.getElem?_append_right (by omega)]
  rw [show a.length + m - a.length = m by omega]
  rfl

theorem get_put (b : List Int) (s : ByteArray) (h : ¬ (s.size : Int) > 60000) : getM (putB b s) (b.length : Int) = (s, ((putB b s).length : Int), true) := by
  have hlen : ((putB b s).length : Int) = (b.length : Int) + 2 + (s.size : Int) := by
    unfold putB
    rw [if_neg h]
    simp only [List.length_append, List.length_cons, List.length_nil, bytesOf_length]
    omega
  have e : putB b s = b ++ ([((s.size : Int) / 256) % 256, ((s.size : Int)) % 256] ++ bytesOf s) := by
    unfold putB
    rw [if_neg h, List.append_assoc]
  have r0 : rd (putB b s) (b.length : Int) = ((s.size : Int) / 256) % 256 := by
    rw [e, rd_append_at b _ 0 (by omega) _ (by omega)]; rfl
  have r1 : rd (putB b s) ((b.length : Int) + 1) = ((s.size : Int)) % 256 := by
    rw [e, rd_append_at b _ 1 (by omega) _ (by omega)]; rfl
  unfold getM
  rw [if_pos (by omega), r0, r1]
  have hn : ((s.size : Int) / 256) % 256 * 256 + ((s.size : Int)) % 256 = (s.size : Int) := by omega
  rw [hn, if_neg (by omega)]
  have d : ((putB b s).take ((b.length : Int) + 2 + (s.size : Int)).toNat).drop ((b.length : Int) + 2).toNat = bytesOf s := by
    rw [List.take_of_length_le (by omega), e, ← List.append_assoc]
    rw [List.drop_append_of_le_length (by first | (simp; done) | (simp; omega)), List.drop_of_length_le (by first | (simp; done) | (simp; omega))]
    rfl
  rw [d, str_bytes, hlen]
theorem get_cut (b : List Int) (s : ByteArray) (h : ¬ (s.size : Int) > 60000) : getM ((putB b s).take ((putB b s).length - 1)) (b.length : Int) = noText := by
  have hlen : (putB b s).length = b.length + 2 + s.size := by
    unfold putB
    rw [if_neg h]
    simp only [List.length_append, List.length_cons, List.length_nil, bytesOf_length]
  have hl2 : ((putB b s).take ((putB b s).length - 1)).length = b.length + 1 + s.size := by rw [List.length_take]; omega
  have e : putB b s = b ++ ([((s.size : Int) / 256) % 256, ((s.size : Int)) % 256] ++ bytesOf s) := by
    unfold putB
    rw [if_neg h, List.append_assoc]
  unfold getM
  by_cases h0 : s.size = 0
  · rw [if_neg (by omega)]
  · rw [if_pos (by omega)]
    have rt : ∀ i : Nat, i < b.length + 1 + s.size → rd ((putB b s).take ((putB b s).length - 1)) (i : Int) = rd (putB b s) (i : Int) := by
      intro i hi
      unfold rd
      rw [List.getD_eq_getElem?_getD, List.getD_eq_getElem?_getD, Int.toNat_natCast, List.getElem?_take, if_pos (by omega)]
    have r0 : rd ((putB b s).take ((putB b s).length - 1)) (b.length : Int) = ((s.size : Int) / 256) % 256 := by
      rw [rt _ (by omega), e, rd_append_at b _ 0 (by omega) _ (by omega)]; rfl
    have r1 : rd ((putB b s).take ((putB b s).length - 1)) ((b.length : Int) + 1) = ((s.size : Int)) % 256 := by
      rw [show (b.length : Int) + 1 = ((b.length + 1 : Nat) : Int) by omega, rt _ (by omega), e, rd_append_at b _ 1 (by omega) _ (by omega)]; rfl
    rw [r0, r1]
    have hn : ((s.size : Int) / 256) % 256 * 256 + ((s.size : Int)) % 256 = (s.size : Int) := by omega
    rw [hn, if_pos (by right; omega)]

theorem FnTexts : laws_FnTexts.Pure2 := by
  intro l hl
  refine Ev.get ?_
  unfold laws_FnTexts.f laws_big.f
  simp only [Option.bind_some, decide_eq_true_eq]
  refine Ev.cond (fun _ => Ev.some) fun hl2 => ?_
  have hl3 : l.length ≤ 1048576 := by omega
  refine Ev.succ ?_
  simp only [laws_FnTexts.j0]
  obtain ⟨⟨b, s⟩, e1, ⟨hb, hb'⟩, hs⟩ := draw_put l hl3
  obtain ⟨a, e2, ha⟩ := draw_name l hl3
  obtain ⟨⟨t, m⟩, e3, ht⟩ := draw_plain l hl3
  obtain ⟨q, en, en'⟩ := name_same a ha
  obtain ⟨q2, ep, ep'⟩ := plain_same t m ht
  simp only at hb hb' hs ht
  refine Ev.bind e1 ?_
  simp only [impl_put b s (by omega) (by omega), Option.bind_some]
  refine Ev.bind e2 (Ev.bind e3 (Ev.bind en (Ev.bind en' ?_)))
  simp only [bne_self_eq_false, Bool.false_eq_true, if_false]
  refine Ev.bind ep (Ev.bind ep' ?_)
  simp only [bne_self_eq_false]
  refine Ev.succ ?_
  simp only [laws_FnTexts.j1, Bool.false_eq_true, if_false]
  refine Ev.succ ?_
  simp only [laws_FnTexts.j2]
  refine Ev.cond (fun h => ?_) (fun h => ?_)
  · refine Ev.cast Ev.some ?_
    unfold putB
    rw [if_pos h]
    simp
  · have hp := putB_length b s (by omega)
    have hpos : 2 ≤ (putB b s).length := by
      unfold putB
      rw [if_neg h]
      simp only [List.length_append, List.length_cons, List.length_nil]
      omega
    have hwf := put_wf b s hb' h
    have hw : wrap64 (((putB b s).length : Int) - 1) = (((putB b s).length - 1 : Nat) : Int) := by rw [wrap64_id (by omega) (by omega)]; omega
    have hbl : (Lit.int .i64 (b.length : Int)).wf = true := by
      simp [Lit.wf, IntKind.min, IntKind.max, IntKind.signed, IntKind.bits]
      omega
    refine Ev.bind (impl_get (putB b s) _ (by omega) hwf hbl) ?_
    rw [get_put b s h]
    simp only [hw, show (0 : Int) ≤ (((putB b s).length - 1 : Nat) : Int) by omega, show (((putB b s).length - 1 : Nat) : Int) ≤ ((putB b s).length : Int) by omega, if_true, Int.toNat_natCast]
    refine Ev.bind (impl_get _ _ (by rw [List.length_take]; omega) (fun z hz => hwf z (List.mem_of_mem_take hz)) hbl) ?_
    rw [get_cut b s h]
    simp only [noText, Bool.not_false]
    exact Ev.some

end Go.Proofs.Ytfbbagddhfeefaa.Pure
