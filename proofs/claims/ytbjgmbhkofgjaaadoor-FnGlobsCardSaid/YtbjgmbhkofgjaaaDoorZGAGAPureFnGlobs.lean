/- The law FnGlobs's one statement. -/
import Derived.Test.YtbjgmbhkofgjaaaDoorZGAGAPureAllFnGlobs
import Derived.Test.YtbjgmbhkofgjaaaDoorZGASGAFnGlobs
import Derived.Test.YtbjgmbhkofgjaaaDoorZGAPGAx14
set_option linter.unusedVariables false
set_option linter.unusedSimpArgs false
set_option linter.unusedSectionVars false
namespace Go.Proofs.YtbjgmbhkofgjaaaDoor.Pure
open Go.RowKit Go.Proofs.YtbjgmbhkofgjaaaDoor.PGA Go.Proofs.YtbjgmbhkofgjaaaDoorW.PrintWords Go.Proofs.YtbjgmbhkofgjaaaDoorW.PrintLast Go.Proofs.YtbjgmbhkofgjaaaDoor.Aux

theorem draw_glob (b : List Int) (i h : Int) (hc : Cur b i) : Got (fun k => spec_l6Draw.f k b i h) fun r => r.1.size ≤ 20 ∧ Cur b r.2.1 := by
  unfold spec_l6Draw.f
  refine Got.bind (draw_str b i h _ (by simp) (by simp) hc) fun r hr => Got.some ⟨?_, hr.2⟩
  have hm := hr.1
  simp only [List.mem_cons, List.not_mem_nil, or_false] at hm
  rcases hm with e | e | e | e | e | e | e | e | e | e | e | e | e | e | e <;> rw [e] <;> decide
theorem draw_globOk (l : List Int) (hl : l.length ≤ 1048576) : Got (fun k => spec_DrawGlobOk.f k l) fun r => r.size ≤ 20 := by
  unfold spec_DrawGlobOk.f
  refine Got.bind (draw_new l (by omega)) fun r0 h0 => ?_
  have hc := cur_new (by omega) h0
  refine Got.bind (draw_glob _ _ _ hc) fun r1 h1 => ?_
  refine Got.bind (draw_glob _ _ _ h1.2) fun r2 h2 => ?_
  refine Got.bind (draw_str _ _ _ _ (by simp) (by simp) h2.2) fun r hr => Got.some ?_
  have hm := hr.1
  have z1 := h1.1
  have z2 := h2.1
  simp only [List.mem_cons, List.not_mem_nil, or_false] at hm
  rcases hm with e | e | e | e | e | e | e | e | e | e | e | e | e | e | e | e | e <;> rw [e] <;> first | decide | assumption
theorem draw_path (b : List Int) (i h : Int) (hc : Cur b i) : Got (fun k => spec_l5Path.f k b i h) fun r => r.1.size ≤ 20 ∧ Cur b r.2.1 := by
  unfold spec_l5Path.f
  refine Got.bind (draw_str b i h _ (by simp) (by simp) hc) fun r hr => Got.some ⟨?_, hr.2⟩
  have hm := hr.1
  simp only [List.mem_cons, List.not_mem_nil, or_false] at hm
  rcases hm with e | e | e | e | e | e | e | e <;> rw [e] <;> decide
theorem draw_matches_j (g : ByteArray) (hg : g.size ≤ 20) (b : List Int) (i h : Int) (hc : Cur b i) : Got (fun k => spec_DrawMatches.j0 k g b i h) fun r => r.1.size ≤ 20 ∧ r.2.size ≤ 20 := by
  refine Got.succ ?_
  simp only [spec_DrawMatches.j0]
  refine Got.bind (draw_path _ _ _ hc) fun r1 h1 => ?_
  refine Got.bind (draw_path _ _ _ h1.2) fun r2 h2 => ?_
  refine Got.bind (draw_path _ _ _ h2.2) fun r3 h3 => ?_
  refine Got.bind (draw_str _ _ _ _ (by simp) (by simp) h3.2) fun r hr => Got.some ⟨hg, ?_⟩
  have hm := hr.1
  have z1 := h1.1
  have z2 := h2.1
  have z3 := h3.1
  simp only [List.mem_cons, List.not_mem_nil, or_false] at hm
  show r.1.size ≤ 20
  rcases hm with e | e | e | e | e | e <;> rw [e] <;> first | decide | assumption
theorem draw_matches (l : List Int) (hl : l.length ≤ 1048576) : Got (fun k => spec_DrawMatches.f k l) fun r => r.1.size ≤ 20 ∧ r.2.size ≤ 20 := by
  unfold spec_DrawMatches.f
  refine Got.bind (draw_new l (by omega)) fun r0 h0 => ?_
  have hc := cur_new (by omega) h0
  refine Got.bind (draw_glob _ _ _ hc) fun r1 h1 => ?_
  refine Got.bind (draw_once _ _ _ _ (by omega) (by omega) h1.2) fun r2 h2 => ?_
  refine Got.cond (fun _ => ?_) (fun _ => draw_matches_j _ h1.1 _ _ _ h2)
  exact Got.bind (draw_globOk l hl) fun r3 h3 => draw_matches_j _ h3 _ _ _ h2

/-- Few files with short paths. -/
def FewF (n : Nat) (l : List S44) : Prop := l.length ≤ n ∧ ∀ x ∈ l, x.f0.size ≤ 40
theorem FewF.nil (n : Nat) : FewF n [] := ⟨Nat.zero_le _, fun _ h => by cases h⟩
theorem FewF.mono {m n : Nat} {l : List S44} (h : FewF m l) (hmn : m ≤ n) : FewF n l := ⟨Nat.le_trans h.1 hmn, h.2⟩
theorem FewF.snoc {n : Nat} {l : List S44} {x : S44} (h : FewF n l) (hx : x.f0.size ≤ 40) : FewF (n + 1) (l ++ [x]) := by
  refine ⟨by rw [List.length_append]; have := h.1; simp; omega, fun y hy => ?_⟩
  rcases List.mem_append.1 hy with hy | hy
  · exact h.2 y hy
  · rw [List.mem_singleton.1 hy]; exact hx
theorem put_l (p t : ByteArray) (hp : p.size ≤ 40) (l : List S44) (hl : FewF 1000 l) (d : Nat) : ∀ (i n : Nat) (out : List S44) (has : Bool), i + d = l.length → n + 2 * d ≤ 10000 → FewF n out → Got (fun k => spec_l5Put.l0 k l out has (i : Int) p t) fun r => FewF (n + d + (if has = true then 0 else 1)) r := by
  have hlen := hl.1
  induction d with
  | zero =>
    intro i n out has hi hn ho
    have hol := ho.1
    refine Got.succ ?_
    simp only [spec_l5Put.l0, show ¬ (i : Int) < (l.length : Int) by omega, if_false]
    cases has with
    | true => simpa using Got.some ho
    | false =>
      simp only [Bool.false_eq_true, if_false, show out.length < 4398046511104 by omega, if_true]
      exact Got.some (ho.snoc hp)
  | succ d ih =>
    intro i n out has hi hn ho
    have hol := ho.1
    have hlt : i < l.length := by omega
    have h3 := next_i hlt (by omega)
    have hg : rd_T44 l (i : Int) = l[i] := rdD_cast _ hlt
    have hx := hl.2 _ (List.getElem_mem hlt)
    refine Got.succ ?_
    simp only [spec_l5Put.l0, show (i : Int) < (l.length : Int) by omega, if_true]
    refine Got.succ ?_
    simp only [spec_l5Put.j1, show (i : Int) < (l.length : Int) by omega, show (0 : Int) ≤ (i : Int) by omega, if_true, hg, h3, show out.length < 4398046511104 by omega]
    refine Got.cond (fun _ => Got.mono (ih (i + 1) n out has (by omega) (by omega) ho) fun r hr => hr.mono (by omega)) fun _ => ?_
    cases has with
    | true =>
      simp only [if_true]
      exact Got.mono (ih (i + 1) (n + 1) _ true (by omega) (by omega) (ho.snoc (x := ⟨l[i].f0, l[i].f1⟩) hx)) fun r hr => hr.mono (by simp; omega)
    | false =>
      simp only [Bool.false_eq_true, if_false]
      refine Got.cond (fun _ => ?_) fun _ => ?_
      · simp only [Option.bind_some, show (out ++ [(⟨p, t⟩ : S44)]).length < 4398046511104 by rw [List.length_append]; simp; omega, if_true]
        exact Got.mono (ih (i + 1) (n + 1 + 1) _ true (by omega) (by omega) ((ho.snoc (x := ⟨p, t⟩) hp).snoc (x := ⟨l[i].f0, l[i].f1⟩) hx)) fun r hr => hr.mono (by simp; omega)
      · exact Got.mono (ih (i + 1) (n + 1) _ false (by omega) (by omega) (ho.snoc (x := ⟨l[i].f0, l[i].f1⟩) hx)) fun r hr => hr.mono (by simp; omega)
theorem put_file (p t : ByteArray) (hp : p.size ≤ 40) (n : Nat) (hn : n ≤ 900) (l : List S44) (hl : FewF n l) : Got (fun k => spec_PutFile.f k l p t) fun r => FewF (n + 1) r.1 := by
  unfold spec_PutFile.f spec_l5Put.f
  have hll := hl.1
  refine Got.bind (put_l p t hp l (hl.mono (by omega)) l.length 0 0 [] false (by omega) (by omega) (FewF.nil _)) fun r hr => ?_
  have hrl := hr.1
  simp only [Bool.false_eq_true, if_false] at hr hrl
  refine Got.bind (Got.of (spec_files r (by omega) (fun x hx => by have := hr.2 x hx; omega)) trivial : Got _ fun _ => True) fun b _ => ?_
  refine Got.cond (fun _ => Got.some (hr.mono (by omega))) fun _ => ?_
  simp only [Option.bind_some, List.length_nil, Nat.zero_add, show l.length < 4398046511104 by omega, if_true, List.nil_append]
  exact Got.some (hl.mono (by omega))
theorem draw_files_l (b : List Int) (d : Nat) : ∀ (n : Nat) (l : List S44) (i h : Int), n + d ≤ 100 → FewF n l → Cur b i → Got (fun k => spec_l5Draw.l0 k l (d : Int) b i h) fun r => FewF (n + d) r.1 ∧ Cur b r.2.1 := by
  induction d with
  | zero =>
    intro n l i h hn hl hc
    refine Got.succ ?_
    simp only [spec_l5Draw.l0, show ¬ ((0 : Nat) : Int) > 0 by omega, if_false]
    exact Got.some ⟨hl, hc⟩
  | succ d ih =>
    intro n l i h hn hl hc
    refine Got.succ ?_
    simp only [spec_l5Draw.l0, show ((d + 1 : Nat) : Int) > 0 by omega, if_true]
    refine Got.bind (draw_path _ _ _ hc) fun r1 h1 => ?_
    refine Got.bind (draw_str _ _ _ _ (by simp) (by simp) h1.2) fun r2 h2 => ?_
    refine Got.bind (put_file _ _ (by have := h1.1; omega) n (by omega) l hl) fun r3 h3 => ?_
    rw [show wrap64 (((d + 1 : Nat) : Int) - 1) = (d : Int) from by rw [wrap64_id (by omega) (by omega)]; omega]
    exact Got.mono (ih (n + 1) _ _ _ (by omega) h3 h2.2) fun r hr => ⟨hr.1.mono (by omega), hr.2⟩
theorem draw_files (b : List Int) (i h : Int) (hc : Cur b i) : Got (fun k => spec_l5Draw.f k b i h) fun r => FewF 8 r.1 ∧ Cur b r.2.1 := by
  unfold spec_l5Draw.f
  refine Got.bind (draw_below b i h 9 (by omega) (by omega) hc) fun r1 h1 => ?_
  obtain ⟨⟨x0, x1⟩, hc1⟩ := h1
  obtain ⟨m, hm⟩ := Int.eq_ofNat_of_zero_le x0
  rw [hm]
  exact Got.mono (draw_files_l b m 0 [] _ _ (by omega) (FewF.nil _) hc1) fun r hr => ⟨hr.1.mono (by omega), hr.2⟩
theorem draw_anyF_l (b : List Int) (i h : Int) (hc : Cur b i) (d : Nat) : ∀ (j n : Nat) (l : List S44), j + d = 25 → n + d ≤ 100 → FewF n l → Got (fun k => spec_l5Any.l0 k l (j : Int) b i h) fun r => FewF (n + d) r.1 ∧ Cur b r.2.1 := by
  induction d with
  | zero =>
    intro j n l hj hn hl
    refine Got.succ ?_
    simp only [spec_l5Any.l0, show ¬ (j : Int) < 25 by omega, if_false]
    exact Got.some ⟨hl, hc⟩
  | succ d ih =>
    intro j n l hj hn hl
    have hll := hl.1
    have hw : wrap64 (10 + (j : Int)) = 10 + (j : Int) := wrap64_id (by omega) (by omega)
    have hw2 : wrap64 ((j : Int) + 1) = ((j + 1 : Nat) : Int) := by rw [wrap64_id (by omega) (by omega)]; omega
    have hs : (numB (10 + (j : Int))).size ≤ 19 := by
      unfold numB
      rw [ofL_size, Lib.decDigits]
      split
      · simp
      · rw [Lib.decDigits, dif_pos (by omega)]
        simp
    refine Got.succ ?_
    simp only [spec_l5Any.l0, show (j : Int) < 25 by omega, if_true, hw, hw2]
    refine Got.bind (Got.of (spec_num _ (by omega)) rfl : Got _ fun r => r = numB (10 + (j : Int))) fun r hr => ?_
    subst hr
    simp only [show 1 + (numB (10 + (j : Int))).size ≤ 9223372036854775807 by omega, if_true, show l.length < 4398046511104 by omega]
    exact Got.mono (ih (j + 1) (n + 1) _ (by omega) (by omega) (hl.snoc (by show (_ ++ _ : ByteArray).size ≤ 40; rw [ByteArray.size_append, show (⟨#[122]⟩ : ByteArray).size = 1 from rfl]; omega))) fun r hr => ⟨hr.1.mono (by omega), hr.2⟩
theorem draw_anyF (b : List Int) (i h : Int) (hc : Cur b i) : Got (fun k => spec_l5Any.f k b i h) fun r => FewF 33 r.1 ∧ Cur b r.2.1 := by
  unfold spec_l5Any.f
  refine Got.bind (draw_files b i h hc) fun r hr => ?_
  have hrl := hr.1.1
  refine Got.bind (draw_below b _ _ 8 (by omega) (by omega) hr.2) fun r1 h1 => ?_
  simp only [show r.1.length < 4398046511104 by omega, if_true]
  refine Got.cond (fun _ => ?_) fun _ => Got.cond (fun _ => ?_) fun _ => Got.cond (fun _ => ?_) fun _ => Got.some ⟨hr.1.mono (by omega), h1.2⟩
  · refine Got.bind (draw_str b _ _ _ (by simp) (by simp) h1.2) fun r2 h2 => Got.some ⟨(hr.1.snoc ?_).mono (by omega), h2.2⟩
    have hm := h2.1
    simp only [List.mem_cons, List.not_mem_nil, or_false] at hm
    show r2.1.size ≤ 40
    rcases hm with e | e | e | e | e | e | e | e <;> rw [e] <;> decide
  · refine Got.bind (draw_below b _ _ 2 (by omega) (by omega) h1.2) fun r2 h2 => ?_
    obtain ⟨⟨y0, y1⟩, hc2⟩ := h2
    have hw : wrap64 (60 + r2.1) = 60 + r2.1 := wrap64_id (by omega) (by omega)
    simp only [hw, show (0 : Int) ≤ 60 + r2.1 by omega, show (60 + r2.1).toNat ≤ 281474976710656 by omega, if_true]
    exact Got.some ⟨(hr.1.snoc (by show (⟨#[122, 122]⟩ : ByteArray).size ≤ 40; decide)).mono (by omega), hc2⟩
  · exact Got.mono (draw_anyF_l b _ _ h1.2 25 0 8 _ (by omega) (by omega) hr.1) fun r2 h2 => ⟨h2.1.mono (by omega), h2.2⟩
theorem draw_picked_l (l : List S44) (b : List Int) (d : Nat) : ∀ (n : Nat) (gs : List ByteArray) (i h : Int), n + d ≤ 100 → gs.length ≤ n → (∀ g ∈ gs, g.size ≤ 20) → Cur b i →
    Got (fun k => spec_DrawPicked.l0 k l gs (d : Int) b i h) fun r => r.1 = l ∧ r.2.length ≤ n + d ∧ ∀ g ∈ r.2, g.size ≤ 20 := by
  induction d with
  | zero =>
    intro n gs i h hn hl hs hc
    refine Got.succ ?_
    simp only [spec_DrawPicked.l0, show ¬ ((0 : Nat) : Int) > 0 by omega, if_false]
    exact Got.some ⟨rfl, hl, hs⟩
  | succ d ih =>
    intro n gs i h hn hl hs hc
    refine Got.succ ?_
    simp only [spec_DrawPicked.l0, show ((d + 1 : Nat) : Int) > 0 by omega, if_true]
    refine Got.bind (draw_glob _ _ _ hc) fun r1 h1 => ?_
    simp only [show gs.length < 8796093022208 by omega, if_true]
    rw [show wrap64 (((d + 1 : Nat) : Int) - 1) = (d : Int) from by rw [wrap64_id (by omega) (by omega)]; omega]
    refine Got.mono (ih (n + 1) _ _ _ (by omega) (by rw [List.length_append]; simp; omega) (fun g hg => ?_) h1.2) fun r hr => ⟨hr.1, by have := hr.2.1; omega, hr.2.2⟩
    rcases List.mem_append.1 hg with hg | hg
    · exact hs g hg
    · rw [List.mem_singleton.1 hg]; exact h1.1
theorem draw_picked (l : List Int) (hl : l.length ≤ 1048576) : Got (fun k => spec_DrawPicked.f k l) fun r => FewF 33 r.1 ∧ r.2.length ≤ 3 ∧ ∀ g ∈ r.2, g.size ≤ 20 := by
  unfold spec_DrawPicked.f
  refine Got.bind (draw_new l (by omega)) fun r0 h0 => ?_
  have hc := cur_new (by omega) h0
  refine Got.bind (draw_anyF _ _ _ hc) fun r1 h1 => ?_
  refine Got.bind (draw_below _ _ _ 4 (by omega) (by omega) h1.2) fun r2 h2 => ?_
  obtain ⟨⟨y0, y1⟩, hc2⟩ := h2
  obtain ⟨m, hm⟩ := Int.eq_ofNat_of_zero_le y0
  rw [hm]
  exact Got.mono (draw_picked_l r1.1 _ m 0 [] _ _ (by omega) (by simp) (by simp) hc2) fun r hr => ⟨by rw [hr.1]; exact h1.1, by have := hr.2.1; omega, hr.2.2⟩

theorem lt_facts {n m : Nat} (h : n < m) : ¬ (n : Int) ≥ (m : Int) ∧ (0 : Int) ≤ (n : Int) ∧ (n : Int) < (m : Int) := ⟨by omega, by omega, by omega⟩
theorem nn_int (j : Nat) : (0 : Int) ≤ (j : Int) := by omega
theorem step_eq {j d n : Nat} (h : j + (d + 1) = n) : j + 1 + d = n := by omega
section
variable (g p h : ByteArray) (l : List S44) (gs : List ByteArray) (hl : FewF 33 l) (hgs : gs.length ≤ 3) (hgs' : ∀ x ∈ gs, x.size ≤ 20) (hg : g.size ≤ 20) (hp : p.size ≤ 20) (hh : h.size ≤ 20)
include hl hgs hgs' hg hp hh
theorem globs_end (x : List S44) : Ev (fun k => laws_FnGlobs.l0 k g p l gs h x (x.length : Int) (l.length : Int)) true := by
  refine Ev.succ ?_
  simp only [laws_FnGlobs.l0, show ¬ (l.length : Int) < (l.length : Int) by omega, if_false, if_true]
  refine Ev.bind (impl_path p (by omega)) (Ev.bind (impl_matches g p (by omega) (by omega)) (Ev.bind (spec_matches g p (by omega) (by omega)) ?_))
  refine Ev.yes (by simp) (Ev.bind (impl_glob h (by omega)) (Ev.bind (spec_glob h (by omega)) ?_))
  refine Ev.yes (by simp) (Ev.bind (impl_matches stars2 p (by decide) (by omega)) ?_)
  refine Ev.yes (by rw [match_stars2]; simp) (Ev.bind (impl_matches p p (by omega) (by omega)) ?_)
  refine Ev.yes (by rw [path_self]; simp) ?_
  by_cases hb : pathB p = true
  · have hx : (p ++ (⟨#[120]⟩ : ByteArray)).size = p.size + 1 := by rw [ByteArray.size_append]; rfl
    have hne : p ≠ p ++ (⟨#[120]⟩ : ByteArray) := fun e => by
      have := congrArg ByteArray.size e
      rw [hx] at this
      omega
    refine Ev.yes hb (Ev.yes (by omega) (Ev.bind (impl_matches p _ (by omega) (by omega)) ?_))
    refine Ev.no (by rw [path_other hb hne]; simp) (Ev.bind (impl_matches stars3 p (by decide) (by omega)) ?_)
    exact Ev.cast Ev.some (by rw [match_stars3]; simp)
  · exact Ev.no hb Ev.some
theorem globs_in (x : List S44) (i n : Nat) (hi : i < l.length) (hrest : Ev (fun k => laws_FnGlobs.l0 k g p l gs h x (if picksF gs l[i] = true then ((n + 1 : Nat) : Int) else (n : Int)) ((i + 1 : Nat) : Int)) true) (hx : picksF gs l[i] = true → x[n]? = some l[i]) (hn : n ≤ 1000) (d : Nat) :
    ∀ (j : Nat) (m : Bool), j + d = gs.length → (m || (gs.drop j).any (fun q => matchB q l[i].f0)) = picksF gs l[i] → Ev (fun k => laws_FnGlobs.l1 k g p l gs h x (n : Int) (i : Int) m (j : Int)) true := by
  have hll := hl.1
  have h1i : (i : Int) < (l.length : Int) := by omega
  have h2i : (0 : Int) ≤ (i : Int) := by omega
  have h3i := next_i hi (by omega)
  have hgi : rd_T44 l (i : Int) = l[i] := rdD_cast _ hi
  have hsz := hl.2 _ (List.getElem_mem hi)
  induction d with
  | zero =>
    intro j m hj hm
    rw [List.drop_eq_nil_of_le (by omega), List.any_nil, Bool.or_false] at hm
    subst hm
    refine Ev.succ ?_
    by_cases hb : picksF gs l[i] = true
    · have hxn := hx hb
      have hnl : n < x.length := (List.getElem?_eq_some_iff.1 hxn).1
      have hgx : rd_T44 x (n : Int) = l[i] := by
        rw [show rd_T44 x (n : Int) = x[n] from rdD_cast _ hnl]
        rw [List.getElem?_eq_getElem hnl] at hxn
        exact Option.some.inj hxn
      have hwn : wrap64 ((n : Int) + 1) = ((n + 1 : Nat) : Int) := by rw [wrap64_id (by omega) (by omega)]; omega
      rw [if_pos hb] at hrest
      have g1 : ¬ (j : Int) < (gs.length : Int) := by omega
      obtain ⟨g2, g3, g4⟩ := lt_facts hnl
      simp only [laws_FnGlobs.l1, g1, g2, g3, g4, h1i, h2i, h3i, hb, hgx, hgi, hwn, if_false, if_true, beq_self_eq_true, Bool.not_true, Bool.or_self, Bool.false_eq_true]
      exact hrest
    · rw [if_neg hb] at hrest
      have g1 : ¬ (j : Int) < (gs.length : Int) := by omega
      simp only [laws_FnGlobs.l1, g1, hb, h3i, if_false]
      exact hrest
  | succ d ih =>
    intro j m hj hm
    have hlt : j < gs.length := by omega
    have h3 := next_i hlt (by omega)
    rw [drop_get hlt, List.any_cons] at hm
    refine Ev.succ ?_
    simp only [laws_FnGlobs.l1, show (j : Int) < (gs.length : Int) by omega, if_true, h3]
    cases m with
    | true =>
      simp only [if_true]
      exact ih (j + 1) true (step_eq hj) (by rw [← hm]; simp)
    | false =>
      simp only [Bool.false_eq_true, if_false, nn_int j, h2i, h1i, if_true, rdOf_cast _ hlt, hgi]
      refine Ev.bind (impl_matches gs[j] l[i].f0 (by have := hgs' _ (List.getElem_mem hlt); omega) (by omega)) ?_
      exact ih (j + 1) _ (by omega) (by rw [← hm]; simp)
theorem globs_l (d : Nat) : ∀ (i n : Nat), i + d = l.length → n = (pickL gs (l.take i)).length → Ev (fun k => laws_FnGlobs.l0 k g p l gs h (pickL gs l) (n : Int) (i : Int)) true := by
  have hll := hl.1
  induction d with
  | zero =>
    intro i n hi hn
    obtain rfl : i = l.length := by omega
    rw [List.take_length] at hn
    subst hn
    exact globs_end g p h l gs hl hgs hgs' hg hp hh _
  | succ d ih =>
    intro i n hi hn
    have hlt : i < l.length := by omega
    have hsplit : pickL gs l = pickL gs (l.take i) ++ pickL gs (l.drop i) := by
      unfold pickL
      rw [← List.filter_append, List.take_append_drop]
    have hnext : pickL gs (l.take (i + 1)) = pickL gs (l.take i) ++ (if picksF gs l[i] = true then [l[i]] else []) := by
      unfold pickL
      rw [List.take_succ_eq_append_getElem hlt, List.filter_append]
      congr 1
      rw [List.filter_cons, List.filter_nil]
    have hnle : n ≤ 1000 := by
      have := List.length_filter_le (picksF gs) (l.take i)
      rw [List.length_take] at this
      unfold pickL at hn
      omega
    refine Ev.succ ?_
    simp only [laws_FnGlobs.l0, show (i : Int) < (l.length : Int) by omega, if_true]
    refine Ev.succ ?_
    simp only [laws_FnGlobs.j2]
    refine globs_in g p h l gs hl hgs hgs' hg hp hh _ i n hlt ?_ (fun hb => ?_) hnle gs.length 0 false (by omega) (by rw [List.drop_zero]; rfl)
    · have hi1 := fun m hm => ih (i + 1) m (by omega) hm
      by_cases hb : picksF gs l[i] = true
      · rw [if_pos hb]
        refine hi1 (n + 1) ?_
        rw [hnext, if_pos hb, List.length_append, hn]
        rfl
      · rw [if_neg hb]
        refine hi1 n ?_
        rw [hnext, if_neg hb, List.append_nil, hn]
    · rw [hsplit, List.getElem?_append_right (by omega), hn, Nat.sub_self, drop_get hlt]
      unfold pickL
      rw [List.filter_cons, if_pos hb]
      rfl
end
theorem FnGlobs : laws_FnGlobs.Pure2 := by
  intro l hl
  refine Ev.get ?_
  unfold laws_FnGlobs.f laws_big.f
  simp only [Option.bind_some]
  refine Ev.cond (fun _ => Ev.some) fun hs => ?_
  have hs' : l.length ≤ 1048576 := by have := of_decide_eq_false (Bool.eq_false_iff.2 hs); omega
  obtain ⟨a, ea, ha1, ha2⟩ := draw_matches l hs'
  obtain ⟨q, eq, hq1, hq2, hq3⟩ := draw_picked l hs'
  obtain ⟨v, ev, hv⟩ := draw_globOk l hs'
  refine Ev.succ ?_
  simp only [laws_FnGlobs.j0]
  refine Ev.bind ea (Ev.bind eq (Ev.bind ev ?_))
  refine Ev.bind (impl_picked q.2 (by omega) (fun x hx => by have := hq3 x hx; omega) q.1 (by have := hq1.1; omega) (fun x hx => by have := hq1.2 x hx; omega)) ?_
  exact globs_l a.1 a.2 v q.1 q.2 hq1 hq2 hq3 ha1 ha2 hv q.1.length 0 0 (by omega) rfl
end Go.Proofs.YtbjgmbhkofgjaaaDoor.Pure
