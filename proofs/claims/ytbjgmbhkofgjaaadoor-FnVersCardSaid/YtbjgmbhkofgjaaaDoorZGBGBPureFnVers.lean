/- What the functions come to. -/
import Derived.Test.YtbjgmbhkofgjaaaDoorZGBGBPureAllFnVers
import Derived.Test.YtbjgmbhkofgjaaaDoorZGBSGBFnVers
import Derived.Test.YtbjgmbhkofgjaaaDoorZGBPGBx12
set_option linter.unusedVariables false
set_option linter.unusedSimpArgs false
namespace Go.Proofs.YtbjgmbhkofgjaaaDoor.Pure
open Go.RowKit Go.Proofs.YtbjgmbhkofgjaaaDoor.PGB Go.Proofs.YtbjgmbhkofgjaaaDoorW.PrintWords Go.Proofs.YtbjgmbhkofgjaaaDoorW.PrintLast Go.Proofs.YtbjgmbhkofgjaaaDoor.Aux
theorem draw_verText (l : List Int) (hl : l.length ≤ 1048576) : Got (fun k => spec_DrawVerText.f k l) fun r => Few 4 r.2.2.2 := by
 unfold spec_DrawVerText.f
 refine Got.bind (draw_new l (by omega)) fun r0 h0 => ?_
 exact Got.bind (draw_any _ _ _ (cur_new (by omega) h0)) fun r1 h1 => Got.some h1.1
theorem draw_vers (l : List Int) (hl : l.length ≤ 1048576) : Got (fun k => spec_DrawVers.f k l) fun r => Few 2 r.2.2.2.1 ∧ Few 2 r.2.2.2.2.2.2.2.1 ∧ Few 2 r.2.2.2.2.2.2.2.2.2.2.2 := by
 unfold spec_DrawVers.f
 refine Got.bind (draw_new l (by omega)) fun r0 h0 => ?_
 refine Got.bind (draw_ver _ _ _ (cur_new (by omega) h0)) fun r1 h1 => ?_
 refine Got.bind (draw_ver _ _ _ h1.2) fun r2 h2 => ?_
 exact Got.bind (draw_ver _ _ _ h2.2) fun r3 h3 => Got.some ⟨h1.1, h2.1, h3.1⟩
theorem verT_short (a b c : Int) {n : Nat} {l : List ByteArray} (h : Few n l) : (verT a b c l).size ≤ 60 + 10 * n := by
 unfold verT
 split
 next hv =>
  obtain ⟨a0, a1, b0, b1, c0, c1, l3⟩ := ver_parts hv
  have na := numB_size (x := a) (by omega)
  have nb := numB_size (x := b) (by omega)
  have nc := numB_size (x := c) (by omega)
  have hj := joinB_size l dot
  have hn := joinN_few h
  have hc : (verCore a b c).size ≤ 59 := by
   unfold verCore
   simp only [ByteArray.size_append, show dot.size = 1 from rfl]
   omega
  split
  ·simp only [ByteArray.size_append, show dash.size = 1 from rfl]
   omega
  ·omega
 next => exact Nat.zero_le _
theorem draw_parseVer (l : List Int) (hl : l.length ≤ 1048576) : Got (fun k => spec_DrawParseVer.f k l) fun r => r.size ≤ 1000 := by
 unfold spec_DrawParseVer.f
 refine Got.bind (draw_new l (by omega)) fun r0 h0 => ?_
 refine Got.bind (draw_ver _ _ _ (cur_new (by omega) h0)) fun r1 h1 => ?_
 have hn := joinN_few h1.1
 refine Got.bind (Got.of (spec_vertext _ _ _ _ (h1.1.len (by omega)) h1.1.short (by omega)) rfl) fun t ht => ?_
 subst ht
 have hs := verT_short r1.1 r1.2.1 r1.2.2.1 h1.1
 refine Got.bind (draw_below _ _ _ 4 (by omega) (by omega) h1.2) fun r2 h2 => ?_
 refine Got.cond (fun _ => ?_) (fun _ => ?_)
 ·refine Got.bind (draw_str _ _ _ _ (by simp) (by simp) h2.2) fun r3 h3 => Got.some ?_
  have hm := h3.1
  simp only [List.mem_cons, List.not_mem_nil, or_false] at hm
  rcases hm with e | e | e | e | e | e | e | e | e | e | e | e | e <;> rw [e] <;> decide
 refine Got.cond (fun _ => ?_) (fun _ => Got.some (by omega))
 have hw : wrap64 (((verT r1.1 r1.2.1 r1.2.2.1 r1.2.2.2.1).size : Int) + 1) = ((verT r1.1 r1.2.1 r1.2.2.1 r1.2.2.2.1).size : Int) + 1 := wrap64_id (by omega) (by omega)
 rw [hw]
 refine Got.bind (draw_below _ _ _ _ (by omega) (by omega) h2.2) fun r3 h3 => ?_
 obtain ⟨⟨p0, p1⟩, hc3⟩ := h3
 simp only [p0, show r3.1 ≤ ((verT r1.1 r1.2.1 r1.2.2.1 r1.2.2.2.1).size : Int) by omega, if_true]
 refine Got.bind (draw_str _ _ _ _ (by simp) (by simp) hc3) fun r4 h4 => ?_
 have z4 : r4.1.size ≤ 9 := by
  have hm := h4.1
  simp only [List.mem_cons, List.not_mem_nil, or_false] at hm
  rcases hm with e | e | e | e | e <;> rw [e] <;> decide
 have e1 : ((verT r1.1 r1.2.1 r1.2.2.1 r1.2.2.2.1).extract 0 r3.1.toNat).size ≤ 80 := by rw [extract_ofL, ofL_size, List.length_take, List.length_drop]; simp; omega
 have e2 : ((verT r1.1 r1.2.1 r1.2.2.1 r1.2.2.2.1).extract r3.1.toNat (verT r1.1 r1.2.1 r1.2.2.1 r1.2.2.2.1).size).size ≤ 80 := by rw [extract_ofL, ofL_size, List.length_take, List.length_drop]; simp; omega
 simp only [ByteArray.size_append]
 repeat (first | exact Got.some (by simp only [ByteArray.size_append]; omega) | refine Got.cond (fun _ => ?_) (fun h => absurd (by omega) h))
theorem FnVers_end (v : Int × Int × Int × List ByteArray) (hv : Few 4 v.2.2.2) : Ev (fun k => laws_FnVers.j7 k (verT v.1 v.2.1 v.2.2.1 v.2.2.2) v.1 v.2.1 v.2.2.1 v.2.2.2) true := by
 have hs := verT_short v.1 v.2.1 v.2.2.1 hv
 refine Ev.succ ?_
 simp only [laws_FnVers.j7]
 refine Ev.bind (impl_ver _ _ _ _ (hv.len (by omega)) hv.short) ?_
 cases hb : verB v.1 v.2.1 v.2.2.1 v.2.2.2 with
 | true =>
  simp only [if_true]
  refine Ev.bind (impl_pv _ (by omega)) ?_
  rw [verT_back hb]
  simp only [if_true]
  exact Ev.bind (lawVer _ _ _ _ (hv.len (by omega))) Ev.some
 | false =>
  simp only [Bool.false_eq_true, if_false]
  refine Ev.cast Ev.some ?_
  unfold verT
  rw [if_neg (by rw [hb]; simp), toList_data]
  rfl
theorem FnVers_less (v : Int × Int × Int × List ByteArray) (hv : Few 4 v.2.2.2) (a b c : Int) (l : List ByteArray) (a' b' c' : Int) (l' : List ByteArray) (a2 b2 c2 : Int) (l2 : List ByteArray) (h1 : Few 2 l) (h2 : Few 2 l') (h3 : Few 2 l2) :
  Ev (fun k => laws_FnVers.j4 k (verT v.1 v.2.1 v.2.2.1 v.2.2.2) false v.1 v.2.1 v.2.2.1 v.2.2.2 a b c l a' b' c' l' a2 b2 c2 l2) true := by
 have last : Ev (fun k => laws_FnVers.j6 k (verT v.1 v.2.1 v.2.2.1 v.2.2.2) false v.1 v.2.1 v.2.2.1 v.2.2.2) true := by
  refine Ev.succ ?_
  simp only [laws_FnVers.j6, Bool.false_eq_true, if_false]
  exact FnVers_end v hv
 refine Ev.succ ?_
 simp only [laws_FnVers.j4, Bool.false_eq_true, if_false]
 refine Ev.succ ?_
 simp only [laws_FnVers.j5]
 refine Ev.bind (impl_lessV _ _ _ _ _ _ _ _ (h1.len (by omega)) h1.short h2.short) ?_
 refine Ev.cond (fun e1 => ?_) (fun _ => last)
 refine Ev.bind (impl_lessV _ _ _ _ _ _ _ _ (h2.len (by omega)) h2.short h3.short) ?_
 refine Ev.cond (fun e2 => ?_) (fun _ => last)
 refine Ev.bind (impl_lessV _ _ _ _ _ _ _ _ (h1.len (by omega)) h1.short h3.short) ?_
 rw [lessV_trans e1 e2]
 exact last
theorem FnVers_read (t : ByteArray) (ht : t.size ≤ 1000) (v : Int × Int × Int × List ByteArray) (hv : Few 4 v.2.2.2) (a b c : Int) (l : List ByteArray) (a' b' c' : Int) (l' : List ByteArray) (a2 b2 c2 : Int) (l2 : List ByteArray) (h1 : Few 2 l) (h2 : Few 2 l') (h3 : Few 2 l2) :
  Ev (fun k => laws_FnVers.j3 k (verT v.1 v.2.1 v.2.2.1 v.2.2.2) t (parseV t).2.2.2.2 (parseV t).2.2.2.2 1 v.1 v.2.1 v.2.2.1 v.2.2.2 (parseV t).1 (parseV t).2.1 (parseV t).2.2.1 (parseV t).2.2.2.1 a b c l a' b' c' l' a2 b2 c2 l2) true := by
 obtain ⟨p1, p2, p3⟩ := parseV_pre t
 have last := FnVers_less v hv a b c l a' b' c' l' a2 b2 c2 l2 h1 h2 h3
 refine Ev.succ ?_
 simp only [laws_FnVers.j3]
 refine Ev.no' (by simp) ?_
 refine Ev.cond (fun e => ?_) (fun _ => ?_)
 ·refine Ev.bind (impl_vertext _ _ _ _ (by omega) (fun x hx => by have := p2 x hx; omega) (by omega)) ?_
  rw [parseV_text e]
  refine Ev.yes' rfl ?_
  refine Ev.bind (impl_ver _ _ _ _ (hv.len (by omega)) hv.short) (Ev.bind (spec_ver _ _ _ _ (hv.len (by omega)) hv.short) ?_)
  exact Ev.no' (by simp) last
 ·refine Ev.bind (impl_ver _ _ _ _ (hv.len (by omega)) hv.short) (Ev.bind (spec_ver _ _ _ _ (hv.len (by omega)) hv.short) ?_)
  exact Ev.no' (by simp) last
theorem FnVers : laws_FnVers.Pure2 := by
 intro l hl
 refine Ev.get ?_
 unfold laws_FnVers.f laws_big.f
 simp only [Option.bind_some]
 refine Ev.cond (fun _ => Ev.some) fun hs => ?_
 have hs' : l.length ≤ 1048576 := by rw [decide_eq_true_eq] at hs; omega
 obtain ⟨v, ev, hv⟩ := draw_verText l hs'
 obtain ⟨t, et, ht⟩ := draw_parseVer l hs'
 obtain ⟨q, eq, h1, h2, h3⟩ := draw_vers l hs'
 have hn := joinN_few hv
 have last := FnVers_read t ht v hv q.1 q.2.1 q.2.2.1 q.2.2.2.1 q.2.2.2.2.1 q.2.2.2.2.2.1 q.2.2.2.2.2.2.1 q.2.2.2.2.2.2.2.1 q.2.2.2.2.2.2.2.2.1 q.2.2.2.2.2.2.2.2.2.1 q.2.2.2.2.2.2.2.2.2.2.1 q.2.2.2.2.2.2.2.2.2.2.2 h1 h2 h3
 have w01 : wrap64 (0 + 1) = 1 := by rw [wrap64_id (by omega) (by omega)]; rfl
 refine Ev.succ ?_
 simp only [laws_FnVers.j0]
 refine Ev.bind ev (Ev.bind (impl_vertext _ _ _ _ (hv.len (by omega)) hv.short (by omega)) (Ev.bind et (Ev.bind (impl_pv t (by omega)) (Ev.bind (spec_pv t (by omega)) (Ev.bind eq (Ev.bind (impl_lessV _ _ _ _ _ _ _ _ (h1.len (by omega)) h1.short h2.short) ?_))))))
 rcases ways_one q.1 q.2.1 q.2.2.1 q.2.2.2.1 q.2.2.2.2.1 q.2.2.2.2.2.1 q.2.2.2.2.2.2.1 q.2.2.2.2.2.2.2.1 with ⟨w1, w2, w3⟩ | ⟨w1, w2, w3⟩ | ⟨w1, w2, w3⟩
 ·rw [w1]
  refine Ev.yes' rfl ?_
  refine Ev.succ ?_
  simp only [laws_FnVers.j1]
  refine Ev.bind (impl_lessV _ _ _ _ _ _ _ _ (h2.len (by omega)) h2.short h1.short) ?_
  rw [w2]
  refine Ev.no' (by simp) ?_
  refine Ev.succ ?_
  simp only [laws_FnVers.j2]
  refine Ev.bind (impl_same _ _ _ _ _ _ _ _ (h1.len (by omega))) ?_
  rw [w3]
  exact Ev.no' (by simp) last
 ·rw [w1]
  refine Ev.no' (by simp) ?_
  refine Ev.succ ?_
  simp only [laws_FnVers.j1]
  refine Ev.bind (impl_lessV _ _ _ _ _ _ _ _ (h2.len (by omega)) h2.short h1.short) ?_
  rw [w2]
  refine Ev.yes' rfl ?_
  refine Ev.succ ?_
  simp only [laws_FnVers.j2]
  refine Ev.bind (impl_same _ _ _ _ _ _ _ _ (h1.len (by omega))) ?_
  rw [w3]
  exact Ev.no' (by simp) (by rw [w01]; exact last)
 ·rw [w1]
  refine Ev.no' (by simp) ?_
  refine Ev.succ ?_
  simp only [laws_FnVers.j1]
  refine Ev.bind (impl_lessV _ _ _ _ _ _ _ _ (h2.len (by omega)) h2.short h1.short) ?_
  rw [w2]
  refine Ev.no' (by simp) ?_
  refine Ev.succ ?_
  simp only [laws_FnVers.j2]
  refine Ev.bind (impl_same _ _ _ _ _ _ _ _ (h1.len (by omega))) ?_
  rw [w3]
  exact Ev.yes' rfl (by rw [w01]; exact last)
end Go.Proofs.YtbjgmbhkofgjaaaDoor.Pure
