/- What the functions come to. -/
import Derived.Test.YtbaeljcnbkeipaaDoorZGAGAPureAllFnFilesBent
import Derived.Test.YtbaeljcnbkeipaaDoorZGASGAFnFilesBent
import Derived.Test.YtbaeljcnbkeipaaDoorZGAPGAx11
set_option linter.unusedVariables false
set_option linter.unusedSimpArgs false
namespace Go.Proofs.YtbaeljcnbkeipaaDoor.Pure
open Go.RowKit Go.Proofs.YtbaeljcnbkeipaaDoor.PGA Go.Proofs.YtbaeljcnbkeipaaDoorW.PrintWords Go.Proofs.YtbaeljcnbkeipaaDoorW.PrintLast Go.Proofs.YtbaeljcnbkeipaaDoor.Aux
theorem draw_pathOk (l : List Int) (hl : l.length ≤ 1048576) : Got (fun k => spec_DrawPathOk.f k l) fun r => r.size ≤ 20 := by
 unfold spec_DrawPathOk.f
 refine Got.bind (draw_new l (by omega)) fun r0 h0 => ?_
 refine Got.bind (draw_path8 _ _ _ (cur_new (by omega) h0)) fun r1 h1 => ?_
 refine Got.bind (draw_str _ _ _ _ (by simp) (by simp) h1.2) fun r hr => Got.some ?_
 have hm := hr.1
 have z1 := h1.1.1
 simp only [List.mem_cons, List.not_mem_nil, or_false] at hm
 rcases hm with e | e | e | e | e | e | e | e | e | e | e | e | e | e | e | e <;> rw [e] <;> first | decide | assumption
theorem draw_filesOk (l : List Int) (hl : l.length ≤ 1048576) : Got (fun k => spec_DrawFilesOk.f k l) fun r => FewD 33 r := by
 unfold spec_DrawFilesOk.f
 refine Got.bind (draw_new l (by omega)) fun r0 h0 => ?_
 exact Got.bind (draw_any8 _ _ _ (cur_new (by omega) h0)) fun r1 h1 => Got.some h1.1
theorem draw_getFile (l : List Int) (hl : l.length ≤ 1048576) : Got (fun k => spec_DrawGetFile.f k l) fun r => FewD 33 r.1 ∧ r.2.size ≤ 20 := by
 unfold spec_DrawGetFile.f
 refine Got.bind (draw_new l (by omega)) fun r0 h0 => ?_
 refine Got.bind (draw_any8 _ _ _ (cur_new (by omega) h0)) fun r1 h1 => ?_
 exact Got.bind (draw_path8 _ _ _ h1.2) fun r2 h2 => Got.some ⟨h1.1, h2.1.1⟩
theorem draw_dropFile (l : List Int) (hl : l.length ≤ 1048576) : Got (fun k => spec_DrawDropFile.f k l) fun r => FewD 33 r.1 ∧ r.2.size ≤ 20 := by
 unfold spec_DrawDropFile.f
 exact Got.bind (draw_getFile l hl) fun r h => Got.some h
theorem draw_diffFiles (l : List Int) (hl : l.length ≤ 1048576) : Got (fun k => spec_DrawDiffFiles.f k l) fun r => FewD 33 r.1 ∧ r.2.length ≤ 33 := by
 unfold spec_DrawDiffFiles.f
 refine Got.bind (draw_new l (by omega)) fun r0 h0 => ?_
 refine Got.bind (draw_any8 _ _ _ (cur_new (by omega) h0)) fun r1 h1 => ?_
 refine Got.bind (draw_files8 _ _ _ h1.2) fun r2 h2 => ?_
 refine Got.bind (draw_once _ _ _ _ (by omega) (by omega) h2.2) fun r3 h3 => ?_
 have hn := h1.1.1
 refine Got.cond (fun _ => ?_) fun _ => Got.some ⟨h1.1, by have := h2.1.1.1; show r2.1.length ≤ 33; omega⟩
 simp only [Option.bind_some, List.length_nil, Nat.zero_add, List.nil_append, show r1.1.length < 4398046511104 by omega, if_true]
 refine Got.cond (fun hp => ?_) fun _ => Got.some ⟨h1.1, hn⟩
 have hlt : 0 < r1.1.length := by omega
 have hg : rd_T31 r1.1 0 = r1.1[0] := rdD_cast (i := 0) _ hlt
 have hs := (h1.1.2.1 _ (List.getElem_mem hlt)).2
 simp only [hg, show (0 : Int) < (r1.1.length : Int) by omega, show r1.1[0].f1.size + 1 ≤ 9223372036854775807 by omega, if_true]
 exact Got.some ⟨h1.1, by show (List.set _ _ _).length ≤ 33; rw [List.length_set]; exact hn⟩
theorem getM_mem {l : List S31} (h : Apart l) {x : S31} (hx : x ∈ l) : getM l x.f0 = (x.f1, true) := by
 unfold getM fAt impl_fileAt_idx
 rw [List.drop_zero]
 cases hq : l.findIdx? (fun y => y.f0.toList == x.f0.toList) with
 | none =>
  have := List.findIdx?_eq_none_iff.1 hq x hx
  simp at this
 | some j =>
  obtain ⟨hj, hp, _⟩ := List.findIdx?_eq_some_iff_getElem.1 hq
  have e : l[j].f0 = x.f0 := toList_inj.1 (beq_iff_eq.1 hp)
  have ex : l[j] = x := by
   obtain ⟨i, hi, rfl⟩ := List.mem_iff_getElem.1 hx
   unfold Apart at h
   rcases Nat.lt_trichotomy i j with c | c | c
   ·exact absurd e.symm (List.pairwise_iff_getElem.1 h i j hi hj c)
   ·simp only [c]
   ·exact absurd e (List.pairwise_iff_getElem.1 h j i hj hi c)
  have hg : rd_T31 l (j : Int) = x := (rdD_cast _ hj).trans ex
  show (if ((0 + j : Nat) : Int) < 0 then _ else _) = _
  rw [if_neg (by omega)]
  show ((rd_T31 l ((0 + j : Nat) : Int)).f1, true) = _
  rw [Nat.zero_add, hg]
theorem diffM_self {l : List S31} (h : Apart l) : (diffM l l).length = 0 := by
 have ha : diffA l l = [] := by
  unfold diffA
  rw [List.filter_eq_nil_iff.2, List.map_nil]
  intro x hx
  unfold unlike
  rw [getM_mem h hx]
  simp
 have hb : diffB l l = [] := by
  unfold diffB
  rw [List.filter_eq_nil_iff.2, List.map_nil]
  intro x hx
  unfold alone
  rw [getM_mem h hx]
  simp
 have := sortB_length (diffA l l ++ diffB l l)
 rw [ha, hb] at this
 unfold diffM
 rw [ha, hb]
 simpa using this
theorem FnFilesBent : laws_FnFilesBent.Pure2 := by
 intro l hl
 refine Ev.get ?_
 unfold laws_FnFilesBent.f laws_big.f
 simp only [Option.bind_some]
 refine Ev.cond (fun _ => Ev.some) fun hs => ?_
 have hs' : l.length ≤ 1048576 := by have := of_decide_eq_false (Bool.eq_false_iff.2 hs); omega
 obtain ⟨p, ep, hp⟩ := draw_pathOk l hs'
 obtain ⟨q, eq, hq⟩ := draw_filesOk l hs'
 obtain ⟨a, ea, ha1, ha2⟩ := draw_getFile l hs'
 obtain ⟨b, eb, hb1, hb2⟩ := draw_dropFile l hs'
 obtain ⟨c, ec, hc1, hc2⟩ := draw_diffFiles l hs'
 have hq1 := hq.1
 have ha3 := ha1.1
 have hb3 := hb1.1
 have hc3 := hc1.1
 have hbs : ∀ x ∈ b.1, x.f0.size ≤ 16777216 := fun x hx => by have := (hb1.2.1 x hx).1; omega
 have hqs : ∀ x ∈ q, x.f0.size ≤ 16777216 := fun x hx => by have := (hq.2.1 x hx).1; omega
 have hdl := (dropM_mem b.1 b.2).1
 have hdf := diffM_length c.1 c.2
 refine Ev.succ ?_
 simp only [laws_FnFilesBent.j0]
 refine Ev.bind ep (Ev.bind eq (Ev.bind ea ?_))
 simp only [impl_get, Option.bind_some]
 refine Ev.bind (spec_get a.1 a.2 (by omega)) (Ev.bind eb ?_)
 refine Ev.bind (impl_drop b.1 b.2 (by omega) hbs) (Ev.bind (spec_drop b.1 b.2 (by omega) hbs) (Ev.bind ec ?_))
 refine Ev.bind (impl_diff c.1 c.2 (by omega) (by omega)) (Ev.bind (impl_path p (by omega)) (Ev.bind (spec_path p (by omega)) ?_))
 simp only [beq_self_eq_true, if_true]
 refine Ev.bind (impl_files q (by omega) hqs) (Ev.bind (spec_files q (by omega) hqs) ?_)
 simp only [beq_self_eq_true, if_true]
 refine Ev.bind (lawFiles _ (by omega)) ?_
 simp only [if_true]
 refine Ev.bind (spec_diff c.1 c.2 (by omega) (by omega)) (Ev.bind (lawTexts _ _ (by omega)) ?_)
 simp only [decide_true, if_true]
 refine Ev.bind (lawAsc _ (by omega) (sortB_spec _).1) ?_
 simp only [if_true]
 refine Ev.bind (impl_diff c.1 c.1 (by omega) (by omega)) (Ev.cast Ev.some ?_)
 rw [diffM_self hc1.2.2]
 rfl
end Go.Proofs.YtbaeljcnbkeipaaDoor.Pure
