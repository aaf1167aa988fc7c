/- What the functions come to. -/
import Derived.Test.YtbaeljcnbkeipaaDoorZGBGBPureAllFnWords
import Derived.Test.YtbaeljcnbkeipaaDoorZGBSGBFnWords
import Derived.Test.YtbaeljcnbkeipaaDoorZGBPGBx4
import Derived.Test.YtbaeljcnbkeipaaDoorZGBPGBx2
import Derived.Test.YtbaeljcnbkeipaaDoorZGBPGBx1
set_option linter.unusedVariables false
set_option linter.unusedSimpArgs false
namespace Go.Proofs.YtbaeljcnbkeipaaDoor.Pure
open Go.RowKit Go.Proofs.YtbaeljcnbkeipaaDoor.PGB Go.Proofs.YtbaeljcnbkeipaaDoorW.PrintWords Go.Proofs.YtbaeljcnbkeipaaDoorW.PrintLast Go.Proofs.YtbaeljcnbkeipaaDoor.Aux
theorem wdec_length : ∀ (m u : Nat), u < 10 ^ (m + 1) → (Lib.decDigits u).length ≤ m + 1
 | 0, u, h => by
  rw [Lib.decDigits, dif_pos (by simpa using h)]
  simp
 | m + 1, u, h => by
  by_cases h9 : u < 10
  ·rw [Lib.decDigits, dif_pos h9]
   simp
  ·have := wdec_length m (u / 10) (by rw [Nat.pow_succ] at h; omega)
   rw [Lib.decDigits, dif_neg h9, List.length_append]
   simp only [List.length_cons, List.length_nil]
   omega
theorem wdec_pos (u : Nat) : 1 ≤ (Lib.decDigits u).length := by
 rw [Lib.decDigits]
 split
 ·simp
 ·simp
theorem wdec_digits : ∀ (n u : Nat), u ≤ n → ∀ b ∈ Lib.decDigits u, digL b = true
 | 0, u, h, b, hb => by
  rw [Lib.decDigits, dif_pos (by omega)] at hb
  rw [List.mem_singleton.1 hb, digL_iff]
  simp
  omega
 | n + 1, u, h, b, hb => by
  by_cases h9 : u < 10
  ·rw [Lib.decDigits, dif_pos h9] at hb
   rw [List.mem_singleton.1 hb, digL_iff]
   simp
   omega
  ·rw [Lib.decDigits, dif_neg h9] at hb
   rcases List.mem_append.1 hb with hb | hb
   ·exact wdec_digits n (u / 10) (by omega) b hb
   ·rw [List.mem_singleton.1 hb, digL_iff]
    simp
    omega
theorem wnum_size {x : Int} (h : x ≤ 9223372036854775807) : (numB x).size ≤ 19 := by
 unfold numB
 rw [ofL_size]
 exact wdec_length 18 x.toNat (by omega)
theorem wparse {x : Int} (h0 : 0 ≤ x) (h1 : x ≤ 65535) : parseM (numB x) 65535 = (x, true) := by
 have hl := wdec_length 4 x.toNat (by omega)
 have hp := wdec_pos x.toNat
 have hv : valL (Lib.decDigits x.toNat) = x.toNat := numOf_dec x.toNat x.toNat (Nat.le_refl _)
 have hd : (Lib.decDigits x.toNat).all digL = true := List.all_eq_true.2 (wdec_digits x.toNat x.toNat (Nat.le_refl _))
 have hn : noLead (Lib.decDigits x.toNat) = true := noLead_of_dec (by rw [hv])
 have hvb : valB (numB x) = x := by
  unfold valB numB
  rw [data_ofL, hv]
  omega
 have hok : parseOk (numB x) = true := by
  unfold parseOk numB
  rw [data_ofL, ofL_size, hd, hn]
  unfold inB
  simp
  omega
 unfold parseM
 rw [hok, hvb, if_pos ⟨rfl, h1⟩]
theorem wat (l : List Int) (hl : l.length ≤ 1048576) (hb : ∀ y ∈ l, 0 ≤ y ∧ y ≤ 255) (i : Int) (h0 : 0 ≤ i) (h1 : i ≤ 10) : ∃ r, laws_at.f l i = some r ∧ 0 ≤ r ∧ r ≤ 255 := by
 unfold laws_at.f
 by_cases h : i < (l.length : Int)
 ·obtain ⟨n, rfl⟩ := Int.eq_ofNat_of_zero_le h0
  have hr := rd_cast (show n < l.length by omega)
  have hx := hb _ (List.getElem_mem (show n < l.length by omega))
  simp only [h, h0, if_true, hr]
  rw [wrap64_id (by omega) (by omega)]
  exact ⟨_, rfl, hx⟩
 ·simp only [h, if_false]
  refine ⟨_, rfl, ?_⟩
  rw [wrap64_id (i := i * 31) (by omega) (by omega), wrap64_id (i := (l.length : Int) * 7) (by omega) (by omega), wrap64_id (by omega) (by omega), Int.tmod_eq_emod_of_nonneg (by omega)]
  omega
theorem whas_l (l : List ByteArray) (s : ByteArray) (hl : l.length ≤ 9223372036854775807) (d : Nat) : ∀ i : Nat, i + d = l.length → s ∈ l.drop i → Ev (fun k => laws_hasText.l0 k l s (i : Int)) true := by
 induction d with
 | zero =>
  intro i hi hm
  rw [List.drop_eq_nil_of_le (by omega)] at hm
  cases hm
 | succ d ih =>
  intro i hi hm
  have hlt : i < l.length := by omega
  have h3 := next_i hlt hl
  refine Ev.succ ?_
  simp only [laws_hasText.l0, show (i : Int) < (l.length : Int) by omega, show (0 : Int) ≤ (i : Int) by omega, if_true, rdOf_cast _ hlt, h3, toList_inj]
  refine Ev.cond (fun _ => Ev.some) fun hne => ?_
  rw [drop_get hlt] at hm
  rcases List.mem_cons.1 hm with e | hm
  ·exact absurd e.symm hne
  ·exact ih (i + 1) (by omega) hm
theorem whas (l : List ByteArray) (s : ByteArray) (hl : l.length ≤ 9223372036854775807) (h : s ∈ l) : Ev (fun k => laws_hasText.f k l s) true := by
 unfold laws_hasText.f
 exact whas_l l s hl l.length 0 (by omega) h
def WFew (n : Nat) (l : List ByteArray) : Prop := l.length ≤ n ∧ ∀ x ∈ l, x.size ≤ 11
theorem wlens : ∀ l : List ByteArray, (∀ x ∈ l, x.size ≤ 11) → Lib.lens (dats l) ≤ 11 * l.length
 | [], _ => by simp [dats, Lib.lens]
 | x :: l, h => by
  have h1 := wlens l fun y hy => h y (List.mem_cons_of_mem _ hy)
  have h2 := h x List.mem_cons_self
  have e1 : (Lib.lens (dats (x :: l)) : Int) = (x.size : Int) + (Lib.lens (dats l) : Int) := by rw [lens_szT, lens_szT]; rfl
  rw [List.length_cons]
  omega
theorem WFew.join {n : Nat} {l : List ByteArray} (h : WFew n l) (hn : n ≤ 100) (s : ByteArray) (hs : s.size ≤ 10) : joinN l s ≤ 2100 := by
 have h1 := wlens l h.2
 have h2 := h.1
 have h3 : s.size * l.length ≤ 10 * 100 := Nat.mul_le_mul hs (by omega)
 unfold joinN
 omega
theorem wdraw_list_l (b : List Int) (d : Nat) : ∀ (n : Nat) (l : List ByteArray) (i h : Int), n + d ≤ 100 → WFew n l → Cur b i → Got (fun k => spec_l1List.l0 k l (d : Int) b i h) fun r => WFew (n + d) r.1 ∧ Cur b r.2.1 := by
 induction d with
 | zero =>
  intro n l i h hn hl hc
  refine Got.succ ?_
  simp only [spec_l1List.l0, show ¬ ((0 : Nat) : Int) > 0 by omega, if_false]
  exact Got.some ⟨hl, hc⟩
 | succ d ih =>
  intro n l i h hn hl hc
  have hll := hl.1
  refine Got.succ ?_
  simp only [spec_l1List.l0, show ((d + 1 : Nat) : Int) > 0 by omega, if_true, spec_l1Text.f]
  have ht := Got.bind (f := fun (k : Nat) (bt535 : ByteArray × Int × Int) => some (bt535.1, bt535.2.1, bt535.2.2)) (draw_str b i h [(⟨#[]⟩ : ByteArray), (⟨#[97]⟩ : ByteArray), (⟨#[98]⟩ : ByteArray), (⟨#[97, 98]⟩ : ByteArray), (⟨#[97, 45, 98]⟩ : ByteArray), (⟨#[65, 98]⟩ : ByteArray), (⟨#[120, 49]⟩ : ByteArray), (⟨#[101, 108, 101, 118, 101, 110, 98, 121, 116, 101, 115]⟩ : ByteArray), (⟨#[116, 101, 110, 45, 98, 121, 116, 101, 115, 49]⟩ : ByteArray), (⟨#[97, 32, 98]⟩ : ByteArray), (⟨#[9]⟩ : ByteArray), (⟨#[127]⟩ : ByteArray), (⟨#[49, 97]⟩ : ByteArray), (⟨#[45, 97]⟩ : ByteArray), (⟨#[122]⟩ : ByteArray), (⟨#[104, 101, 108, 108, 111]⟩ : ByteArray)] (by simp) (by simp) hc) (q := fun r => r.1.size ≤ 11 ∧ Cur b r.2.1) fun r hr => Got.some ⟨by
   have hm := hr.1
   simp only [List.mem_cons, List.not_mem_nil, or_false] at hm
   show r.1.size ≤ 11
   rcases hm with e | e | e | e | e | e | e | e | e | e | e | e | e | e | e | e <;> rw [e] <;> decide, hr.2⟩
  refine Got.bind ht fun r1 h1 => ?_
  simp only [show l.length < 8796093022208 by omega, if_true]
  rw [show wrap64 (((d + 1 : Nat) : Int) - 1) = (d : Int) from by rw [wrap64_id (by omega) (by omega)]; omega]
  refine Got.mono (ih (n + 1) _ _ _ (by omega) ⟨by rw [List.length_append]; simp; omega, fun x hx => ?_⟩ h1.2) fun r hr => ⟨by have := hr.1; rwa [show n + 1 + d = n + (d + 1) by omega] at this, hr.2⟩
  rcases List.mem_append.1 hx with hx | hx
  ·exact hl.2 x hx
  ·rw [List.mem_singleton.1 hx]; exact h1.1
theorem wdraw_list (b : List Int) (i h : Int) (hc : Cur b i) : Got (fun k => spec_l1List.f k b i h) fun r => WFew 5 r.1 ∧ Cur b r.2.1 := by
 unfold spec_l1List.f
 refine Got.bind (draw_below b i h 6 (by omega) (by omega) hc) fun r1 h1 => ?_
 obtain ⟨⟨x0, x1⟩, hc1⟩ := h1
 obtain ⟨m, hm⟩ := Int.eq_ofNat_of_zero_le x0
 rw [hm]
 exact Got.mono (wdraw_list_l b m 0 [] _ _ (by omega) ⟨Nat.le_refl _, fun _ h => by cases h⟩ hc1) fun r hr => ⟨⟨by have := hr.1.1; omega, hr.1.2⟩, hr.2⟩
theorem wdraw_num (b : List Int) (i h : Int) (hc : Cur b i) : Got (fun k => spec_l1Num.f k b i h) fun r => r.1 ≤ 9223372036854775807 ∧ Cur b r.2.1 := by
 unfold spec_l1Num.f
 refine Got.bind (draw_int b i h _ (by simp) (by simp) hc) fun r hr => Got.some ⟨?_, hr.2⟩
 have hm := hr.1
 simp only [List.mem_cons, List.not_mem_nil, or_false] at hm
 show r.1 ≤ 9223372036854775807
 omega
theorem wdraw_parse (l : List Int) (hl : l.length ≤ 1048576) : Got (fun k => spec_DrawParseNum.f k l) fun r => r.1.size ≤ 19 := by
 unfold spec_DrawParseNum.f
 refine Got.bind (draw_new l (by omega)) fun r0 h0 => ?_
 refine Got.bind (wdraw_num _ _ _ (cur_new (by omega) h0)) fun r1 h1 => ?_
 refine Got.bind (Got.of (spec_num _ h1.1) rfl : Got _ fun r => r = numB r1.1) fun t ht => ?_
 subst ht
 refine Got.bind (draw_once _ _ _ _ (by omega) (by omega) h1.2) fun r2 h2 => ?_
 refine Got.cond (fun _ => ?_) fun _ => ?_
 ·refine Got.bind (draw_str _ _ _ _ (by simp) (by simp) h2) fun r3 h3 => ?_
  refine Got.bind (draw_int _ _ _ _ (by simp) (by simp) h3.2) fun r4 h4 => Got.some ?_
  have hm := h3.1
  simp only [List.mem_cons, List.not_mem_nil, or_false] at hm
  show r3.1.size ≤ 19
  rcases hm with e | e | e | e | e | e | e <;> rw [e] <;> decide
 ·exact Got.bind (draw_int _ _ _ _ (by simp) (by simp) h2) fun r4 h4 => Got.some (wnum_size h1.1)
theorem wdraw_split (l : List Int) (hl : l.length ≤ 1048576) : Got (fun k => spec_DrawSplit.f k l) fun r => r.1.size ≤ 2100 ∧ ∃ c : UInt8, r.2 = (c.toNat : Int) := by
 unfold spec_DrawSplit.f
 refine Got.bind (draw_new l (by omega)) fun r0 h0 => ?_
 refine Got.bind (wdraw_list _ _ _ (cur_new (by omega) h0)) fun r1 h1 => ?_
 have hj := h1.1.join (by omega) ⟨#[44]⟩ (by decide)
 have hs := joinB_size r1.1 ⟨#[44]⟩
 refine Got.bind (Got.of (spec_join r1.1 ⟨#[44]⟩ (by omega) (by have := h1.1.1; omega)) rfl : Got _ fun r => r = joinB r1.1 ⟨#[44]⟩) fun t ht => ?_
 subst ht
 refine Got.bind (draw_int _ _ _ _ (by simp) (by simp) h1.2) fun r4 h4 => Got.some ⟨by show (joinB r1.1 ⟨#[44]⟩).size ≤ 2100; omega, ?_⟩
 have hm := h4.1
 simp only [List.mem_cons, List.not_mem_nil, or_false] at hm
 show ∃ c : UInt8, r4.1 % 256 = (c.toNat : Int)
 rcases hm with e | e | e | e <;> rw [e]
 ·exact ⟨44, rfl⟩
 ·exact ⟨44, rfl⟩
 ·exact ⟨97, rfl⟩
 ·exact ⟨0, rfl⟩
theorem wdraw_sorted (l : List Int) (hl : l.length ≤ 1048576) : Got (fun k => spec_DrawSorted.f k l) fun r => WFew 5 r := by
 unfold spec_DrawSorted.f
 refine Got.bind (draw_new l (by omega)) fun r0 h0 => ?_
 exact Got.bind (wdraw_list _ _ _ (cur_new (by omega) h0)) fun r1 h1 => Got.some h1.1
theorem wdraw_join (l : List Int) (hl : l.length ≤ 1048576) : Got (fun k => spec_DrawJoin.f k l) fun r => WFew 5 r.1 ∧ r.2.size ≤ 10 := by
 unfold spec_DrawJoin.f
 refine Got.bind (draw_new l (by omega)) fun r0 h0 => ?_
 refine Got.bind (wdraw_list _ _ _ (cur_new (by omega) h0)) fun r1 h1 => ?_
 refine Got.bind (draw_str _ _ _ _ (by simp) (by simp) h1.2) fun r2 h2 => Got.some ⟨h1.1, ?_⟩
 have hm := h2.1
 simp only [List.mem_cons, List.not_mem_nil, or_false] at hm
 show r2.1.size ≤ 10
 rcases hm with e | e | e <;> rw [e] <;> decide
theorem wdraw_numText (l : List Int) (hl : l.length ≤ 1048576) : Got (fun k => spec_DrawNumText.f k l) fun r => r ≤ 9223372036854775807 := by
 unfold spec_DrawNumText.f
 refine Got.bind (draw_new l (by omega)) fun r0 h0 => ?_
 exact Got.bind (wdraw_num _ _ _ (cur_new (by omega) h0)) fun r1 h1 => Got.some h1.1
theorem wstr_one (c : UInt8) : strOfNums [(c.toNat : Int)] = ⟨#[c]⟩ := by
 unfold strOfNums
 simp
theorem wsplit (s : ByteArray) (c : UInt8) (hs : s.size ≤ 16777216) : impl_Split.f s (c.toNat : Int) = some (piecesB s ⟨#[c]⟩) := by
 unfold impl_Split.f
 rw [wstr_one, strings_split s c hs]
 rfl
theorem wjoin (l : List ByteArray) (s : ByteArray) (hb : joinN l s ≤ 140737488355328) (hr : l.length ≤ 140737488355328) : impl_Join.f l s = some (joinB l s) := by
 unfold impl_Join.f
 rw [strings_join l s hb hr]
 rfl
theorem sortB_twice (l : List ByteArray) : sortB (sortB l) = sortB l :=
 ascB_one (sortB_spec _).1 (sortB_spec _).1 fun x => (sortB_spec _).2 x
section
variable (b : List Int) (n : Int) (y : Int × Bool) (t : ByteArray) (c : UInt8) (l j : List ByteArray) (s : ByteArray) (a : Int)
  (hl : WFew 5 l) (hj : WFew 5 j) (hs : s.size ≤ 10) (ht : t.size ≤ 2100) (ha : a ≤ 9223372036854775807) (ej : Ev (fun k => spec_DrawJoin.f k b) (j, s)) (ea : Ev (fun k => spec_DrawNumText.f k b) a)
include hl hj hs ht ha ej ea
theorem words_end : Ev (fun k => laws_FnWords.l1 k b n n true y.1 y.2 y.1 y.2 t (c.toNat : Int) l (sortB l) ((sortB l).length : Int)) true := by
 have hsl := sortB_length l
 have hll := hl.1
 have hp := pieces_length (s := t) (sep := ⟨#[c]⟩) (Nat.le_refl _)
 have hN := hj.join (by omega) s hs
 have hjl := hj.1
 have hpn := joinN_pieces t c
 refine Ev.succ ?_
 simp only [laws_FnWords.l1, show ¬ ((sortB l).length : Int) < ((sortB l).length : Int) by omega, if_false]
 refine Ev.bind ej (Ev.bind ea ?_)
 simp only [if_true, beq_self_eq_true, wsplit t c (by omega), Option.bind_some, wstr_one, wjoin (piecesB t ⟨#[c]⟩) ⟨#[c]⟩ (by omega) (by omega), joinB_pieces]
 refine Ev.bind (lawAsc _ (by omega) (sortB_spec l).1) ?_
 simp only [if_true, impl_sorted (sortB l) (by omega), Option.bind_some, sortB_twice]
 refine Ev.bind (lawTexts _ _ (by omega)) ?_
 simp only [decide_true, if_true, wjoin j s (by omega) (by omega), Option.bind_some]
 refine Ev.bind (spec_join j s (by omega) (by omega)) ?_
 simp only [if_true, impl_num a ha, Option.bind_some]
 refine Ev.bind (spec_num a ha) ?_
 simp only [beq_self_eq_true]
 exact Ev.some
theorem words_l1 (d : Nat) : ∀ i : Nat, i + d = (sortB l).length → Ev (fun k => laws_FnWords.l1 k b n n true y.1 y.2 y.1 y.2 t (c.toNat : Int) l (sortB l) (i : Int)) true := by
 have hsl := sortB_length l
 have hll := hl.1
 induction d with
 | zero =>
  intro i hi
  obtain rfl : i = (sortB l).length := by omega
  exact words_end b n y t c l j s a hl hj hs ht ha ej ea
 | succ d ih =>
  intro i hi
  have hlt : i < (sortB l).length := by omega
  have h3 := next_i hlt (by omega)
  refine Ev.succ ?_
  simp only [laws_FnWords.l1, show (i : Int) < ((sortB l).length : Int) by omega, show (0 : Int) ≤ (i : Int) by omega, if_true, rdOf_cast _ hlt, h3]
  refine Ev.bind (whas l _ (by omega) (((sortB_spec l).2 _).1 (List.getElem_mem hlt))) ?_
  simp only [if_true]
  exact ih (i + 1) (by omega)
theorem words_l0 (d : Nat) : ∀ i : Nat, i + d = l.length → Ev (fun k => laws_FnWords.l0 k b n n true y.1 y.2 y.1 y.2 t (c.toNat : Int) l (sortB l) (i : Int)) true := by
 have hsl := sortB_length l
 have hll := hl.1
 induction d with
 | zero =>
  intro i hi
  refine Ev.succ ?_
  simp only [laws_FnWords.l0, show ¬ (i : Int) < (l.length : Int) by omega, if_false]
  exact words_l1 b n y t c l j s a hl hj hs ht ha ej ea (sortB l).length 0 (by omega)
 | succ d ih =>
  intro i hi
  have hlt : i < l.length := by omega
  have h3 := next_i hlt (by omega)
  refine Ev.succ ?_
  simp only [laws_FnWords.l0, show (i : Int) < (l.length : Int) by omega, show (0 : Int) ≤ (i : Int) by omega, if_true, rdOf_cast _ hlt, h3]
  refine Ev.bind (whas _ _ (by omega) (((sortB_spec l).2 _).2 (List.getElem_mem hlt))) ?_
  simp only [if_true]
  exact ih (i + 1) (by omega)
end
theorem FnWords : laws_FnWords.Pure2 := by
 intro l hl
 obtain ⟨hl1, hl2⟩ := hl
 have hb : ∀ y ∈ l, 0 ≤ y ∧ y ≤ 255 := fun y hy => wf_u8 (hl2 y hy)
 refine Ev.get ?_
 unfold laws_FnWords.f laws_big.f
 simp only [Option.bind_some]
 refine Ev.cond (fun _ => Ev.some) fun hs => ?_
 have hs' : l.length ≤ 1048576 := by have := of_decide_eq_false (Bool.eq_false_iff.2 hs); omega
 obtain ⟨x, ex, hx0, hx1⟩ := wat l hs' hb 2 (by omega) (by omega)
 obtain ⟨y, ey, hy0, hy1⟩ := wat l hs' hb 3 (by omega) (by omega)
 obtain ⟨p, ep, hp⟩ := wdraw_parse l hs'
 obtain ⟨t, et, ht, c, hc⟩ := wdraw_split l hs'
 obtain ⟨q, eq, hq⟩ := wdraw_sorted l hs'
 obtain ⟨j, ej, hj1, hj2⟩ := wdraw_join l hs'
 obtain ⟨a, ea, ha⟩ := wdraw_numText l hs'
 have hn : wrap64 (wrap64 (x * 256) + y) = x * 256 + y := by rw [wrap64_id (i := x * 256) (by omega) (by omega), wrap64_id (by omega) (by omega)]
 have hql := hq.1
 refine Ev.succ ?_
 simp only [laws_FnWords.j0, ex, ey, Option.bind_some, hn, impl_num (x * 256 + y) (by omega)]
 refine Ev.bind (impl_parse _ _) ?_
 rw [wparse (by omega) (by omega)]
 refine Ev.bind ep (Ev.bind (impl_parse _ _) (Ev.bind (spec_parse _ _ (by omega)) (Ev.bind et (Ev.bind eq ?_))))
 simp only [impl_sorted q (by omega), Option.bind_some, hc]
 exact words_l0 l (x * 256 + y) (parseM p.1 p.2) t.1 c q j.1 j.2 a hq hj1 hj2 ht ha ej ea q.length 0 (by omega)
end Go.Proofs.YtbaeljcnbkeipaaDoor.Pure
