/- What the functions come to. -/
import Derived.Test.YtpcdhoeoefoeoaaDoorZGAGAPureAllFnCarets
import Derived.Test.YtpcdhoeoefoeoaaDoorZGASGAFnCarets
import Derived.Test.YtpcdhoeoefoeoaaDoorZGAPGAx12
set_option linter.unusedVariables false
set_option linter.unusedSimpArgs false
namespace Go.Proofs.YtpcdhoeoefoeoaaDoor.Pure
open Go.RowKit Go.Proofs.YtpcdhoeoefoeoaaDoor.PGA Go.Proofs.YtpcdhoeoefoeoaaDoorW.PrintWords Go.Proofs.YtpcdhoeoefoeoaaDoorW.PrintLast Go.Proofs.YtpcdhoeoefoeoaaDoor.Aux
theorem ver_plain {a b c : Int} (ha : 0 ≤ a ∧ a ≤ 9999) (hb : 0 ≤ b ∧ b ≤ 9999) (hc : 0 ≤ c ∧ c ≤ 9999) : verB a b c [] = true := by
 unfold verB verEnd inB
 simp
 omega
theorem ver_low {a b c : Int} (ha : 0 ≤ a ∧ a ≤ 9999) (hb : 0 ≤ b ∧ b ≤ 9999) (hc : 0 ≤ c ∧ c ≤ 9999) : okV (lowC a b c) = true := by
 have h0 : preB (⟨#[48]⟩ : ByteArray) = true := by decide
 show verB a b c [⟨#[48]⟩] = true
 unfold verB verEnd inB
 simp [h0]
 omega
/-- A word alone, read. -/
theorem range_word {t : List UInt8} {x : List CmpT} (hne : t ≠ []) (hc : ∀ b ∈ t, clean b) (hw : wordC (ofL t) = (x, true)) (ho : x.all okV = true) (hl : x.length ≤ 4) : rangeR (ofL t) = ([x], true) := by
 have hs : Lib.split t [124, 124] = [t] := split_bar_alone t (fun b hb => (hc b hb).2)
 have hb : Lib.split t [32] = [t] := split_alone 32 t (fun h => (hc 32 h).1 rfl)
 have ht : Lib.trimB t 32 = t := by
  have h1 : ∃ d r, t = d :: r ∧ d ≠ 32 := by
   cases t with
   | nil => exact absurd rfl hne
   | cons d r => exact ⟨d, r, rfl, (hc d (by simp)).1⟩
  have h2 : ∃ u b, t = u ++ [b] ∧ b ≠ 32 := ⟨t.dropLast, t.getLast hne, (List.dropLast_concat_getLast hne).symm, (hc _ (List.getLast_mem hne)).1⟩
  have := trim_back h1 h2 [] [] (by simp) (by simp)
  simpa using this
 have e1 : piecesB (ofL t) bar2 = [ofL t] := by
  unfold piecesB
  rw [data_ofL, show bar2.data.toList = [124, 124] from rfl, hs]
  rfl
 have e2 : trimQ (ofL t) = ofL t := by
  unfold trimQ
  rw [data_ofL, ht]
 have e3 : piecesB (ofL t) blank1 = [ofL t] := by
  unfold piecesB
  rw [data_ofL, show blank1.data.toList = [32] from rfl, hb]
  rfl
 have e4 : wordsC [ofL t] = some x := by simp [wordsC, hw]
 have e5 : sideC (ofL t) = some x := by
  unfold sideC
  rw [e2, e3, list_other _ (by simp), e4]
  unfold endW
  simp only [Option.bind_some, ho, hl, and_self, if_true]
 unfold rangeR rangeC
 rw [e1]
 simp [sidesC, e5]
theorem word_sign (g : UInt8) (hg : g = 94 ∨ g = 126) {a b c : Int} (h : verB a b c [] = true) : wordC (ofL (g :: (verT a b c []).data.toList)) = (makeC [g] (a, b, c, [], 3, true), true) := by
 have hp := partB_ver h
 unfold wordC
 rw [data_ofL, if_neg (by rcases hg with rfl | rfl <;> simp)]
 rcases hg with rfl | rfl <;> simp [wordGo, signsL, List.isPrefixOf, hp]
theorem range_sign (g : UInt8) (hg : g = 94 ∨ g = 126) {a b c : Int} (ha : 0 ≤ a ∧ a < 9999) (hb : 0 ≤ b ∧ b < 9999) (hc : 0 ≤ c ∧ c < 9999) : rangeR ((⟨#[g]⟩ : ByteArray) ++ verT a b c []) = ([makeC [g] (a, b, c, [], 3, true)], true) := by
 have hv : verB a b c [] = true := ver_plain (by omega) (by omega) (by omega)
 have e : ((⟨#[g]⟩ : ByteArray) ++ verT a b c []) = ofL (g :: (verT a b c []).data.toList) := by
  rw [← ofL_data ((⟨#[g]⟩ : ByteArray) ++ verT a b c []), app_data]
  rfl
 rw [e]
 refine range_word (by simp) ?_ (word_sign g hg hv) ?_ (by have := (makeC_length [g] (a, b, c, [], 3, true)).2; omega)
 ·intro x hx
  rcases List.mem_cons.1 hx with rfl | hx
  ·rcases hg with rfl | rfl <;> exact ⟨by decide, by decide⟩
  ·exact verT_clean hv x hx
 ·have hf : okV (fromC (a, b, c, [], 3, true)) = true := hv
  rcases hg with rfl | rfl
  ·have hm : makeC [94] (a, b, c, [], 3, true) = [fromC (a, b, c, [], 3, true), caretC (a, b, c, [], 3, true)] := by simp [makeC]
   have hk : okV (caretC (a, b, c, [], 3, true)) = true := by
    unfold caretC
    simp only [show ¬ (3 : Int) = 1 by decide, show ¬ (3 : Int) = 2 by decide, or_false]
    split
    ·exact ver_low (by omega) (by omega) (by omega)
    ·split
     ·exact ver_low (by omega) (by omega) (by omega)
     ·exact ver_low (by omega) (by omega) (by omega)
   simp only [hm, List.all_cons, List.all_nil, hf, hk, Bool.and_true]
  ·have hm : makeC [126] (a, b, c, [], 3, true) = [fromC (a, b, c, [], 3, true), lowC a (b + 1) 0] := by simp [makeC, nextC]
   have hk : okV (lowC a (b + 1) 0) = true := ver_low (by omega) (by omega) (by omega)
   simp only [hm, List.all_cons, List.all_nil, hf, hk, Bool.and_true]
theorem range_star : rangeR (⟨#[42]⟩ : ByteArray) = ([[mkC 4 0 0 0 []]], true) := by
 have e : (⟨#[42]⟩ : ByteArray) = ofL [42] := rfl
 rw [e]
 refine range_word (by simp) (fun b hb => ?_) ?_ ?_ (by simp)
 ·rw [List.mem_singleton.1 hb]
  exact ⟨by decide, by decide⟩
 ·unfold wordC
  rw [data_ofL, if_pos rfl]
 ·show (verB 0 0 0 [] && true) = true
  rw [ver_plain (by omega) (by omega) (by omega)]
  rfl
/-- Which of two versions is less, if the first has no Pre. -/
theorem less_no (x y z a b c : Int) (l : List ByteArray) : lessV x y z [] a b c l = true ↔ x < a ∨ x = a ∧ (y < b ∨ y = b ∧ z < c) := by
 unfold lessV
 split
 ·split
  ·split
   ·have : lessP [] l = false := by unfold lessP; simp
    rw [this]
    simp
    omega
   ·simp only [decide_eq_true_eq]
    omega
  ·simp only [decide_eq_true_eq]
   omega
 ·simp only [decide_eq_true_eq]
  omega
theorem ok_from (x y z a b c : Int) (l : List ByteArray) (t : Int) (o : Bool) : okC x y z [] (fromC (a, b, c, l, t, o)) = !lessV x y z [] a b c l := by
 show cmpOkB 4 a b c l x y z [] = _
 unfold cmpOkB
 simp
theorem ok_low (x y z a b c : Int) : okC x y z [] (lowC a b c) = lessV x y z [] a b c [⟨#[48]⟩] := by
 show cmpOkB 1 a b c [⟨#[48]⟩] x y z [] = _
 unfold cmpOkB
 simp
theorem takes_star (x y z : Int) (hx : 0 ≤ x ∧ x ≤ 9999) (hy : 0 ≤ y ∧ y ≤ 9999) (hz : 0 ≤ z ∧ z ≤ 9999) : rangeB x y z [] [[mkC 4 0 0 0 []]] = true := by
 have h : okC x y z [] (mkC 4 0 0 0 []) = true := by
  show okC x y z [] (fromC (0, 0, 0, [], 3, true)) = true
  rw [ok_from, Bool.not_eq_true', Bool.eq_false_iff, Ne, less_no]
  omega
 unfold rangeB takesB
 rw [ver_plain hx hy hz]
 simp [h]
/-- What a caret takes. -/
theorem takes_caret (a b c x y z : Int) (ha : 0 ≤ a) (hb : 0 ≤ b) (hc : 0 ≤ c) (hx : 0 ≤ x ∧ x ≤ 9999) (hy : 0 ≤ y ∧ y ≤ 9999) (hz : 0 ≤ z ∧ z ≤ 9999) :
  rangeB x y z [] [makeC [94] (a, b, c, [], 3, true)] = true ↔ (a = x ∧ (a = 0 → b = y ∧ (b ≠ 0 ∨ c = z))) ∧ ¬ lessV x y z [] a b c [] = true := by
 have hm : makeC [94] (a, b, c, [], 3, true) = [fromC (a, b, c, [], 3, true), caretC (a, b, c, [], 3, true)] := by simp [makeC]
 unfold rangeB takesB
 rw [ver_plain hx hy hz, hm]
 simp only [List.any_cons, List.any_nil, List.all_cons, List.all_nil, List.length_nil, decide_true, Bool.true_or, Bool.and_true, Bool.or_false, Bool.true_and, Bool.and_eq_true, ok_from, Bool.not_eq_true', Bool.eq_false_iff, Ne, less_no]
 unfold caretC
 simp only [show ¬ (3 : Int) = 1 by decide, show ¬ (3 : Int) = 2 by decide, or_false]
 split
 ·rw [ok_low, less_no]
  omega
 ·split
  ·rw [ok_low, less_no]
   omega
  ·rw [ok_low, less_no]
   omega
/-- What a tilde takes. -/
theorem takes_tilde (a b c x y z : Int) (ha : 0 ≤ a) (hb : 0 ≤ b) (hc : 0 ≤ c) (hx : 0 ≤ x ∧ x ≤ 9999) (hy : 0 ≤ y ∧ y ≤ 9999) (hz : 0 ≤ z ∧ z ≤ 9999) :
  rangeB x y z [] [makeC [126] (a, b, c, [], 3, true)] = true ↔ (a = x ∧ b = y) ∧ ¬ lessV x y z [] a b c [] = true := by
 have hm : makeC [126] (a, b, c, [], 3, true) = [fromC (a, b, c, [], 3, true), lowC a (b + 1) 0] := by simp [makeC, nextC]
 unfold rangeB takesB
 rw [ver_plain hx hy hz, hm]
 simp only [List.any_cons, List.any_nil, List.all_cons, List.all_nil, List.length_nil, decide_true, Bool.true_or, Bool.and_true, Bool.or_false, Bool.true_and, Bool.and_eq_true, ok_from, ok_low, Bool.not_eq_true', Bool.eq_false_iff, Ne, less_no]
 omega
def Three (a b c : Int) : Prop := (0 ≤ a ∧ a < 3) ∧ (0 ≤ b ∧ b < 3) ∧ (0 ≤ c ∧ c < 3)
theorem draw_three (b : List Int) (i h : Int) (hc : Cur b i) : Got (fun k => spec_l3Draw.f k b i h) fun r => Three r.1 r.2.1 r.2.2.1 ∧ Cur b r.2.2.2.2.1 := by
 unfold spec_l3Draw.f
 refine Got.bind (draw_below b i h 3 (by omega) (by omega) hc) fun r1 h1 => ?_
 refine Got.bind (draw_below b _ _ 3 (by omega) (by omega) h1.2) fun r2 h2 => ?_
 refine Got.bind (draw_below b _ _ 3 (by omega) (by omega) h2.2) fun r3 h3 => ?_
 refine Got.bind (draw_once b _ _ 3 (by omega) (by omega) h3.2) fun r4 h4 => ?_
 refine Got.cond (fun _ => ?_) (fun _ => Got.some ⟨⟨h1.1, h2.1, h3.1⟩, h4⟩)
 refine Got.bind (draw_str b _ _ _ (by simp) (by simp) h4) fun r5 h5 => ?_
 simp only [List.length_nil, show (0 : Nat) < 8796093022208 by omega, if_true, Option.bind_some, List.nil_append]
 refine Got.bind (draw_once b _ _ 3 (by omega) (by omega) h5.2) fun r6 h6 => ?_
 refine Got.cond (fun _ => ?_) (fun _ => Got.some ⟨⟨h1.1, h2.1, h3.1⟩, h6⟩)
 refine Got.bind (draw_str b _ _ _ (by simp) (by simp) h6) fun r7 h7 => ?_
 simp only [List.length_cons, List.length_nil, show (0 + 1 : Nat) < 8796093022208 by omega, if_true]
 exact Got.some ⟨⟨h1.1, h2.1, h3.1⟩, h7.2⟩
theorem draw_vers3 (l : List Int) (hl : l.length ≤ 1048576) : Got (fun k => spec_DrawVers.f k l) fun r => Three r.1 r.2.1 r.2.2.1 ∧ Three r.2.2.2.2.1 r.2.2.2.2.2.1 r.2.2.2.2.2.2.1 := by
 unfold spec_DrawVers.f
 refine Got.bind (draw_new l (by omega)) fun r0 h0 => ?_
 refine Got.bind (draw_three _ _ _ (cur_new (by omega) h0)) fun r1 h1 => ?_
 refine Got.bind (draw_three _ _ _ h1.2) fun r2 h2 => ?_
 exact Got.bind (draw_three _ _ _ h2.2) fun r3 h3 => Got.some ⟨h1.1, h2.1⟩
theorem verT_plain_size (a b c : Int) : (verT a b c []).size ≤ 60 := by
 unfold verT
 split
 next hv =>
  obtain ⟨a0, a1, b0, b1, c0, c1, l3⟩ := ver_parts hv
  have na := numB_size (x := a) (by omega)
  have nb := numB_size (x := b) (by omega)
  have nc := numB_size (x := c) (by omega)
  rw [if_neg (by simp)]
  unfold verCore
  simp only [ByteArray.size_append, show dot.size = 1 from rfl]
  omega
 next => exact Nat.zero_le _
theorem make_st (sg : List UInt8) (a b c : Int) : ∀ y ∈ [makeC sg (a, b, c, [], 3, true)], y.length ≤ 9223372036854775807 ∧ ∀ x ∈ y, stS x := by
 intro y hy
 rw [List.mem_singleton.1 hy]
 refine ⟨by have := (makeC_length sg (a, b, c, [], 3, true)).2; omega, fun x hx => (small_make sg (a, b, c, [], 3, true) ⟨by simp, by simp⟩ x hx).st⟩
theorem in_make (sg : List UInt8) (a b c x y z : Int) : Ev (fun k => impl_InRange.f k [makeC sg (a, b, c, [], 3, true)] x y z []) (rangeB x y z [] [makeC sg (a, b, c, [], 3, true)]) :=
 impl_inRange x y z [] _ (by simp) (by simp) (by simp) (make_st sg a b c)
theorem in_star (x y z : Int) : Ev (fun k => impl_InRange.f k [[mkC 4 0 0 0 []]] x y z []) (rangeB x y z [] [[mkC 4 0 0 0 []]]) :=
 impl_inRange x y z [] _ (by simp) (by simp) (by simp) (by
  intro y hy
  rw [List.mem_singleton.1 hy]
  refine ⟨by simp, fun x hx => ?_⟩
  rw [List.mem_singleton.1 hx]
  exact (small_mk 4 0 0 0 [] ⟨by simp, by simp⟩).st)
theorem less_plain (x y z a b c : Int) : Ev (fun k => impl_LessVer.f k x y z [] a b c []) (lessV x y z [] a b c []) := impl_lessV _ _ _ _ _ _ _ _ (by simp) (by simp) (by simp)
theorem not_less_self (a b c : Int) : ¬ lessV a b c [] a b c [] = true := by
 rw [less_no]
 omega
theorem FnCarets_tilde (a b c x y z : Int) (h : Three a b c) (h' : Three x y z) :
  Ev (fun k => (impl_InRange.f k [makeC [126] (a, b, c, [], 3, true)] x y z []).bind fun t => if a = x then (if b = y then (impl_LessVer.f k x y z [] a b c []).bind fun u => some (t == (!u)) else some (t == false)) else some (t == false)) true := by
 obtain ⟨ha, hb, hc⟩ := h
 obtain ⟨hx, hy, hz⟩ := h'
 have ht := takes_tilde a b c x y z ha.1 hb.1 hc.1 (by omega) (by omega) (by omega)
 refine Ev.bind (in_make _ _ _ _ _ _ _) ?_
 have no : ¬ (a = x ∧ b = y) → rangeB x y z [] [makeC [126] (a, b, c, [], 3, true)] = false := fun hn => by
  rw [Bool.eq_false_iff, Ne, ht]
  exact fun e => hn e.1
 refine Ev.cond (fun e1 => ?_) (fun e1 => ?_)
 ·refine Ev.cond (fun e2 => ?_) (fun e2 => ?_)
  ·refine Ev.bind (less_plain _ _ _ _ _ _) ?_
   refine Ev.cast Ev.some ?_
   rw [beq_iff_eq, Bool.eq_iff_iff, ht, Bool.not_eq_true', Bool.eq_false_iff]
   exact ⟨fun e => e.2, fun e => ⟨⟨e1, e2⟩, e⟩⟩
  ·refine Ev.cast Ev.some ?_
   rw [no (fun e => e2 e.2)]
   rfl
 ·refine Ev.cast Ev.some ?_
  rw [no (fun e => e1 e.1)]
  rfl
theorem FnCarets_in (same : Bool) (a b c x y z : Int) (h : Three a b c) (h' : Three x y z) (hs : same = true ↔ (a = x ∧ (a = 0 → b = y ∧ (b ≠ 0 ∨ c = z)))) :
  Ev (fun k => laws_FnCarets.j1 k [makeC [94] (a, b, c, [], 3, true)] true [makeC [126] (a, b, c, [], 3, true)] true [[mkC 4 0 0 0 []]] true same a b c [] x y z []) true := by
 have last := FnCarets_tilde a b c x y z h h'
 obtain ⟨ha, hb, hc⟩ := h
 obtain ⟨hx, hy, hz⟩ := h'
 have h9 : ∀ v : Int, 0 ≤ v ∧ v < 3 → 0 ≤ v ∧ v ≤ 9999 := fun v hv => ⟨hv.1, by omega⟩
 have hk := takes_caret a b c x y z ha.1 hb.1 hc.1 (h9 _ hx) (h9 _ hy) (h9 _ hz)
 refine Ev.succ ?_
 simp only [laws_FnCarets.j1, if_true]
 refine Ev.bind (in_star _ _ _) ?_
 rw [takes_star x y z (h9 _ hx) (h9 _ hy) (h9 _ hz)]
 simp only [if_true]
 refine Ev.bind (in_make _ _ _ _ _ _ _) ?_
 rw [(takes_caret a b c a b c ha.1 hb.1 hc.1 (h9 _ ha) (h9 _ hb) (h9 _ hc)).2 ⟨⟨rfl, fun _ => ⟨rfl, .inr rfl⟩⟩, not_less_self _ _ _⟩]
 simp only [if_true]
 refine Ev.bind (in_make _ _ _ _ _ _ _) ?_
 rw [(takes_tilde a b c a b c ha.1 hb.1 hc.1 (h9 _ ha) (h9 _ hb) (h9 _ hc)).2 ⟨⟨rfl, rfl⟩, not_less_self _ _ _⟩]
 simp only [if_true]
 refine Ev.bind (in_make _ _ _ _ _ _ _) ?_
 cases same with
 | true =>
  refine Ev.yes' rfl ?_
  refine Ev.bind (less_plain _ _ _ _ _ _) ?_
  refine Ev.yes' ?_ last
  rw [beq_iff_eq, Bool.eq_iff_iff, hk, Bool.not_eq_true', Bool.eq_false_iff]
  exact ⟨fun e => e.2, fun e => ⟨hs.1 rfl, e⟩⟩
 | false =>
  refine Ev.no' (by simp) ?_
  refine Ev.yes' ?_ last
  rw [beq_iff_eq, Bool.eq_false_iff, Ne, hk]
  exact fun e => absurd (hs.2 e.1) (by simp)
theorem FnCarets : laws_FnCarets.Pure2 := by
 intro l hl
 refine Ev.get ?_
 unfold laws_FnCarets.f laws_big.f
 simp only [Option.bind_some]
 refine Ev.cond (fun _ => Ev.some) fun hs => ?_
 have hs' : l.length ≤ 1048576 := by rw [decide_eq_true_eq] at hs; omega
 obtain ⟨q, eq, h1, h2⟩ := draw_vers3 l hs'
 obtain ⟨ha, hb, hc⟩ := h1
 have ez := verT_plain_size q.1 q.2.1 q.2.2.1
 have e94 := range_sign 94 (.inl rfl) (a := q.1) (b := q.2.1) (c := q.2.2.1) (by omega) (by omega) (by omega)
 have e126 := range_sign 126 (.inr rfl) (a := q.1) (b := q.2.1) (c := q.2.2.1) (by omega) (by omega) (by omega)
 have fit : ∀ g : UInt8, ((⟨#[g]⟩ : ByteArray) ++ verT q.1 q.2.1 q.2.2.1 []).size ≤ 16777216 := fun g => by
  rw [ByteArray.size_append, show (⟨#[g]⟩ : ByteArray).size = 1 from rfl]
  omega
 have tx := impl_vertext q.1 q.2.1 q.2.2.1 [] (by simp) (by simp) (by decide)
 refine Ev.succ ?_
 simp only [laws_FnCarets.j0, Option.bind_some]
 refine Ev.bind eq (Ev.bind tx (Ev.yes' (by omega) (Ev.bind (Ev.cast (impl_range _ (fit 94)) e94) (Ev.bind tx (Ev.yes' (by omega) (Ev.bind (Ev.cast (impl_range _ (fit 126)) e126) (Ev.bind (Ev.cast (impl_range (⟨#[42]⟩ : ByteArray) (by decide)) range_star) ?_)))))))
 have last := fun (same : Bool) (hsame : same = true ↔ (q.1 = q.2.2.2.2.1 ∧ (q.1 = 0 → q.2.1 = q.2.2.2.2.2.1 ∧ (q.2.1 ≠ 0 ∨ q.2.2.1 = q.2.2.2.2.2.2.1)))) => FnCarets_in same q.1 q.2.1 q.2.2.1 q.2.2.2.2.1 q.2.2.2.2.2.1 q.2.2.2.2.2.2.1 ⟨ha, hb, hc⟩ h2 hsame
 refine Ev.cond (fun c1 => ?_) (fun c1 => ?_)
 ·refine Ev.cond (fun c2 => ?_) (fun c2 => ?_)
  ·refine Ev.cond (fun c3 => ?_) (fun c3 => ?_)
   ·refine Ev.cond (fun c4 => ?_) (fun c4 => ?_)
    ·refine last _ ?_
     rw [beq_iff_eq]
     exact ⟨fun e => ⟨c2, fun _ => ⟨c3, .inr e⟩⟩, fun e => (e.2 c1).2.resolve_left (fun n => n c4)⟩
    ·exact last _ ⟨fun _ => ⟨c2, fun _ => ⟨c3, .inl c4⟩⟩, fun _ => rfl⟩
   ·exact last _ ⟨fun e => absurd e (by simp), fun e => absurd (e.2 c1).1 c3⟩
  ·exact last _ ⟨fun e => absurd e (by simp), fun e => absurd e.1 c2⟩
 ·refine last _ ?_
  rw [beq_iff_eq]
  exact ⟨fun e => ⟨e, fun z => absurd z c1⟩, fun e => e.1⟩
end Go.Proofs.YtpcdhoeoefoeoaaDoor.Pure
