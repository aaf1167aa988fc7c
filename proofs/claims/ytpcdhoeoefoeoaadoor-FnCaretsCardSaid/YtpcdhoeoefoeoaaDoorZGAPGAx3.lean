/- The walks of the functions that these laws reach, and what each comes to: printed by this session's program. -/
import Derived.Test.YtpcdhoeoefoeoaaDoorZGAPGAx0
import Derived.Test.YtpcdhoeoefoeoaaDoorZGAPGAx1
import Derived.Test.YtpcdhoeoefoeoaaDoorZGAPGAx2
import Derived.Test.YtpcdhoeoefoeoaaDoorZGASays
import Derived.Test.YtpcdhoeoefoeoaaDoorZGARegs
namespace Go.Proofs.YtpcdhoeoefoeoaaDoor.PGA
open Go.RowKit Go.Proofs.YtpcdhoeoefoeoaaDoorW.PrintWords Go.Proofs.YtpcdhoeoefoeoaaDoorW.PrintLast Go.Proofs.YtpcdhoeoefoeoaaDoorW.PrintMore
attribute [local go_sem high] Go.Proofs.YtpcdhoeoefoeoaaDoor.Mine.str_gtr Go.Proofs.YtpcdhoeoefoeoaaDoor.Mine.str_leq Go.Proofs.YtpcdhoeoefoeoaaDoor.Mine.str_geq
attribute [local go_sem] max2_int min2_int max_two min_two max_three min_three max_four min_four   -- for this text's walks alone
set_option linter.unusedVariables false
set_option maxHeartbeats 8000000
set_option maxRecDepth 100000
set_option linter.unusedSimpArgs false
/-! ### spec_DrawVers: function 5 -/
def spec_DrawVers.f (k : Nat) (l0 : List Int) : Option (Int × Int × Int × List ByteArray × Int × Int × Int × List ByteArray × Int × Int × Int × List ByteArray) := (spec_l1New.f k l0).bind fun bt162 => ((spec_l3Draw.f k bt162.1 bt162.2.1 bt162.2.2).bind fun bt166 => ((spec_l3Draw.f k bt162.1 bt166.2.2.2.2.1 bt166.2.2.2.2.2).bind fun bt175 => ((spec_l3Draw.f k bt162.1 bt175.2.2.2.2.1 bt175.2.2.2.2.2).bind fun bt184 => (some (bt166.1, bt166.2.1, bt166.2.2.1, bt166.2.2.2.1, bt175.1, bt175.2.1, bt175.2.2.1, bt175.2.2.2.1, bt184.1, bt184.2.1, bt184.2.2.1, bt184.2.2.2.1)))))
theorem spec_DrawVers.calls (k : Nat) (A0 : Option Addr) (c0 : Nat) (l0 : List Int) (r1 : Int) (r2 : Int) (r3 : Int) (r4 : List ByteArray) (r5 : Int) (r6 : Int) (r7 : Int) (r8 : List ByteArray) (r9 : Int) (r10 : Int) (r11 : Int) (r12 : List ByteArray) (w : World) (hr0 : Kd.C (Kd.int .u8) w A0 l0.length l0) (hc0 : l0.length ≤ c0) (h : spec_DrawVers.f k l0 = some (r1, r2, r3, r4, r5, r6, r7, r8, r9, r10, r11, r12)) :
  Calls Tryd.prog 5 #[.slice A0 l0.length c0] w fun e w' => ∃ v3_ v7_ v11_ : Value, e = .returned (.tuple #[.agg #[.int .i64 r1, .int .i64 r2, .int .i64 r3, v3_], .agg #[.int .i64 r5, .int .i64 r6, .int .i64 r7, v7_], .agg #[.int .i64 r9, .int .i64 r10, .int .i64 r11, v11_]]) ∧ Kd.R Kd.string 9 w' w.heap.size (fun k_ => some k_ ≠ (v7_ : Value).ownBlock ∧ some k_ ≠ (v11_ : Value).ownBlock) v3_ r4 ∧ Kd.R Kd.string 9 w' w.heap.size (fun k_ => some k_ ≠ (v3_ : Value).ownBlock ∧ some k_ ≠ (v11_ : Value).ownBlock) v7_ r8 ∧ Kd.R Kd.string 9 w' w.heap.size (fun k_ => some k_ ≠ (v3_ : Value).ownBlock ∧ some k_ ≠ (v7_ : Value).ownBlock) v11_ r12 ∧ Below w.heap.size w w' := by
 have hu26 := Tryd.underlying26
 have HR0 := Aside0.mk hr0
 have HC0 := Aside0.mk hc0
 clear hr0 hc0
 have HB := zA (Below.refl w.heap.size w)
 have H : ((spec_l1New.f k l0).bind fun bt162 => ((spec_l3Draw.f k bt162.1 bt162.2.1 bt162.2.2).bind fun bt166 => ((spec_l3Draw.f k bt162.1 bt166.2.2.2.2.1 bt166.2.2.2.2.2).bind fun bt175 => ((spec_l3Draw.f k bt162.1 bt175.2.2.2.2.1 bt175.2.2.2.2.2).bind fun bt184 => (some (bt166.1, bt166.2.1, bt166.2.2.1, bt166.2.2.2.1, bt175.1, bt175.2.1, bt175.2.2.1, bt175.2.2.2.1, bt184.1, bt184.2.1, bt184.2.2.1, bt184.2.2.2.1)))))) = some (r1, r2, r3, r4, r5, r6, r7, r8, r9, r10, r11, r12) := h
 clear h
 replace H := Option.bind_eq_some_iff.mp H
 obtain ⟨⟨t162, t163, t164⟩, A20, H⟩ := H
 try dsimp only at H
 have A2 := Aside0.mk A20
 clear A20
 replace H := Option.bind_eq_some_iff.mp H
 obtain ⟨⟨t166, t167, t168, t169, t172, t173⟩, A30, H⟩ := H
 try dsimp only at H
 have A3 := Aside0.mk A30
 clear A30
 replace H := Option.bind_eq_some_iff.mp H
 obtain ⟨⟨t175, t176, t177, t178, t181, t182⟩, A40, H⟩ := H
 try dsimp only at H
 have A4 := Aside0.mk A40
 clear A40
 replace H := Option.bind_eq_some_iff.mp H
 obtain ⟨⟨t184, t185, t186, t187, t190, t191⟩, A50, H⟩ := H
 try dsimp only at H
 have A5 := Aside0.mk A50
 clear A50
 simp only [Option.some.injEq, Prod.mk.injEq] at H
 obtain ⟨rfl, rfl, rfl, rfl, rfl, rfl, rfl, rfl, rfl, rfl, rfl, rfl⟩ := H
 go_enter Tryd.func5, Tryd.ntmps5
 try go_wp2_with (first | ((with_reducible refine zd 2 ?_); refine ze 2 26 #[.int .i64 0, .int .i64 0, .int .i64 0, .slice none 0 0] ?_; intro gb159 hg w6 hbox hb; have BK159 := zA (hbox); have GW159 := zi HB hg; have GE159 := zi HB hg; replace HB := zA (below_step (zB) hb); clear hb hbox hg) | ((with_reducible refine zd 3 ?_); refine ze 3 26 #[.int .i64 0, .int .i64 0, .int .i64 0, .slice none 0 0] ?_; intro gb160 hg w7 hbox hb; have BK160 := zA (hbox); have GW160 := zi HB hg; have GE160 := zi HB hg; replace HB := zh HB hb; have NB159_160 := zA (zL hg (zK BK159.out)); have NB160_159 := zA (zJ hg (zK BK159.out)); replace BK159 := zb BK159 hb; clear hb hbox hg) | ((with_reducible refine zd 4 ?_); refine ze 4 26 #[.int .i64 0, .int .i64 0, .int .i64 0, .slice none 0 0] ?_; intro gb161 hg w8 hbox hb; have BK161 := zA (hbox); have GW161 := zi HB hg; have GE161 := zi HB hg; replace HB := zh HB hb; have NB159_161 := zA (zL hg (zK BK159.out)); have NB161_159 := zA (zJ hg (zK BK159.out)); replace BK159 := zb BK159 hb; have NB160_161 := zA (zL hg (zK BK160.out)); have NB161_160 := zA (zJ hg (zK BK160.out)); replace BK160 := zb BK160 hb; clear hb hbox hg) | ((with_reducible refine zq 10 ?_); refine zg (some 9) Tryd.func10 #[.slice A0 l0.length c0] ?_; (with_reducible refine (spec_l1New.calls k _ _ l0 t162 t163 t164 w _ ?side1 ?side2 ?side3 A2.out).mono ?_); (case side1 => repeat (first | (with_reducible first | exact HB.out | apply below_alloc | apply pw_below_drewN | apply below_drew1 | refine below_set ?_ GE159.out | refine below_set ?_ GE160.out | refine below_set ?_ GE161.out) | exact HB.out)); (case side2 => exact HR0.out); (case side3 => exact HC0.out); rintro e w9 ⟨g165, rfl, hi, hb, hb2⟩; refine ⟨_, rfl, ?_⟩; replace HB := zA (hb); have HI165 := zA (hi); have NB165_159 := zA (IsS48.ne_blk hi (blk_below (zK BK159.out) hb2) (by decide)); have NB159_165 := zA (Ne.symm (IsS48.ne_blk hi (blk_below (zK BK159.out) hb2) (by decide))); replace BK159 := zA (blk_below (zK BK159.out) hb2); have NB165_160 := zA (IsS48.ne_blk hi (blk_below (zK BK160.out) hb2) (by decide)); have NB160_165 := zA (Ne.symm (IsS48.ne_blk hi (blk_below (zK BK160.out) hb2) (by decide))); replace BK160 := zA (blk_below (zK BK160.out) hb2); have NB165_161 := zA (IsS48.ne_blk hi (blk_below (zK BK161.out) hb2) (by decide)); have NB161_165 := zA (Ne.symm (IsS48.ne_blk hi (blk_below (zK BK161.out) hb2) (by decide))); replace BK161 := zA (blk_below (zK BK161.out) hb2); (try clear hb hb2 hi)) | ((with_reducible refine zq 11 ?_); refine zg (some 11) Tryd.func11 #[.pointer (some ⟨g165, 0, none⟩)] ?_; (with_reducible refine (spec_l3Draw.calls k g165 t162 t163 t164 t166 t167 t168 t169 t172 t173 w _ ?side1 ?side2 A3.out).mono ?_); (case side1 => repeat (first | (with_reducible first | exact HI165.out | apply IsS48.alloc | apply IsS48.drewN | apply IsS48.drew | apply IsS48.set_1 | apply IsS48.set_2 | refine IsS48.far ?_ NB165_159.out _ | refine IsS48.far ?_ NB165_160.out _ | refine IsS48.far ?_ NB165_161.out _) | exact HI165.out)); (case side2 => repeat (first | (with_reducible first | exact HB.out | apply below_alloc | apply pw_below_drewN | apply below_drew1 | refine below_set ?_ (IsS48.ge HI165.out) | refine below_set ?_ GE159.out | refine below_set ?_ GE160.out | refine below_set ?_ GE161.out) | exact HB.out)); rintro e w10 ⟨v170, rfl, ho0, hi, hb, hk⟩; refine ⟨_, rfl, ?_⟩; replace BK159 := zA (KeepBut.blk hk (g' := gb159) (o := .cells #[.int .i64 0, .int .i64 0, .int .i64 0, .slice none 0 0] 26 (0, 0)) (zK BK159.out) NB159_165.out (by simp)); replace BK160 := zA (KeepBut.blk hk (g' := gb160) (o := .cells #[.int .i64 0, .int .i64 0, .int .i64 0, .slice none 0 0] 26 (0, 0)) (zK BK160.out) NB160_165.out (by simp)); replace BK161 := zA (KeepBut.blk hk (g' := gb161) (o := .cells #[.int .i64 0, .int .i64 0, .int .i64 0, .slice none 0 0] 26 (0, 0)) (zK BK161.out) NB161_165.out (by simp)); have HO171 := zA (Kd.R_lower ho0 (below_size (zX HB.out (IsS48.ge HI165.out)))); replace HB := zA (hb); replace HI165 := zA (hi); (try clear hb hk hi ho0)) | ((with_reducible refine zd 6 ?_); refine ze 6 26 #[.int .i64 0, .int .i64 0, .int .i64 0, .slice none 0 0] ?_; intro gb174 hg w11 hbox hb; replace HO171 := zr HO171 hb; have BK174 := zA (hbox); have GW174 := zA ((by rw [hg]; exact (below_size (zX HB.out (IsS48.ge HI165.out))) : w.heap.size ≤ gb174)); have GE174 := zA ((by rw [hg]; exact (below_size (zX HB.out (IsS48.ge HI165.out))) : w.heap.size ≤ gb174)); replace HB := zA (below_step (zX HB.out (IsS48.ge HI165.out)) hb); have NB159_174 := zA (zL hg (zK BK159.out)); have NB174_159 := zA (zJ hg (zK BK159.out)); replace BK159 := zb BK159 hb; have NB160_174 := zA (zL hg (zK BK160.out)); have NB174_160 := zA (zJ hg (zK BK160.out)); replace BK160 := zb BK160 hb; have NB161_174 := zA (zL hg (zK BK161.out)); have NB174_161 := zA (zJ hg (zK BK161.out)); replace BK161 := zb BK161 hb; have NB165_174 := zA ((by rw [hg]; exact Nat.ne_of_lt (IsS48.lt (show IsS48 w _ g165 t162 t172 t173 from by repeat (first | (with_reducible first | exact HI165.out | apply IsS48.alloc | apply IsS48.drewN | apply IsS48.drew | apply IsS48.set_1 | apply IsS48.set_2 | refine IsS48.far ?_ NB165_159.out _ | refine IsS48.far ?_ NB165_160.out _ | refine IsS48.far ?_ NB165_161.out _) | exact HI165.out))) : g165 ≠ gb174)); have NB174_165 := zA ((by rw [hg]; exact Nat.ne_of_gt (IsS48.lt (show IsS48 w _ g165 t162 t172 t173 from by repeat (first | (with_reducible first | exact HI165.out | apply IsS48.alloc | apply IsS48.drewN | apply IsS48.drew | apply IsS48.set_1 | apply IsS48.set_2 | refine IsS48.far ?_ NB165_159.out _ | refine IsS48.far ?_ NB165_160.out _ | refine IsS48.far ?_ NB165_161.out _) | exact HI165.out))) : gb174 ≠ g165)); replace HI165 := zA (IsS48.below (by repeat (first | (with_reducible first | exact HI165.out | apply IsS48.alloc | apply IsS48.drewN | apply IsS48.drew | apply IsS48.set_1 | apply IsS48.set_2 | refine IsS48.far ?_ NB165_159.out _ | refine IsS48.far ?_ NB165_160.out _ | refine IsS48.far ?_ NB165_161.out _) | exact HI165.out)) hb); clear hb hbox hg; have hnb12 := NB174_159.out; have hnc12 := NB159_174.out; have hnb13 := NB174_160.out; have hnc13 := NB160_174.out; have hnb14 := NB174_161.out; have hnc14 := NB161_174.out; have hnb15 := NB174_165.out; have hnc15 := NB165_174.out; obtain ⟨hcz16_0, hcz16_1, hcz16_2, hcz16_3, hfz16_0, hfz16_1, hfz16_2, hfz16_3⟩ := ze4 BK174.out; obtain ⟨Ao17, co17, eo17⟩ := Kd.R_slice HO171.out; subst eo17) | ((with_reducible refine zq 11 ?_); refine zg (some 13) Tryd.func11 #[.pointer (some ⟨g165, 0, none⟩)] ?_; (with_reducible refine (spec_l3Draw.calls k g165 t162 t172 t173 t175 t176 t177 t178 t181 t182 w _ ?side1 ?side2 A4.out).mono ?_); (case side1 => repeat (first | (with_reducible first | exact HI165.out | apply IsS48.alloc | apply IsS48.drewN | apply IsS48.drew | apply IsS48.set_1 | apply IsS48.set_2 | refine IsS48.far ?_ NB165_159.out _ | refine IsS48.far ?_ NB165_160.out _ | refine IsS48.far ?_ NB165_161.out _ | refine IsS48.far ?_ NB165_174.out _) | exact HI165.out)); (case side2 => repeat (first | (with_reducible first | exact HB.out | apply below_alloc | apply pw_below_drewN | apply below_drew1 | refine below_set ?_ (IsS48.ge HI165.out) | refine below_set ?_ GE159.out | refine below_set ?_ GE160.out | refine below_set ?_ GE161.out | refine below_set ?_ GE174.out) | exact HB.out)); rintro e w18 ⟨v179, rfl, ho0, hi, hb, hk⟩; refine ⟨_, rfl, ?_⟩; replace BK159 := zA (KeepBut.blk hk (g' := gb159) (o := .cells #[.int .i64 0, .int .i64 0, .int .i64 0, .slice none 0 0] 26 (0, 0)) (zK BK159.out) NB159_165.out (by simp)); replace BK160 := zA (KeepBut.blk hk (g' := gb160) (o := .cells #[.int .i64 0, .int .i64 0, .int .i64 0, .slice none 0 0] 26 (0, 0)) (zK BK160.out) NB160_165.out (by simp)); replace BK161 := zA (KeepBut.blk hk (g' := gb161) (o := .cells #[.int .i64 0, .int .i64 0, .int .i64 0, .slice none 0 0] 26 (0, 0)) (zK BK161.out) NB161_165.out (by simp)); have HO180 := zA (Kd.R_lower (Kd.R_new' ho0 (Kd.R_lt (zR (Kd.R_mono (Kd.R_far (p := ⟨gb174, 3, none⟩) (Kd.R_far (p := ⟨gb174, 2, none⟩) (Kd.R_far (p := ⟨gb174, 1, none⟩) (Kd.R_far (p := ⟨gb174, 0, none⟩) (Kd.R_types HO171.out BK174.out (by decide)) (fun _ hk => hk.2) (.int .i64 t166)) (fun _ hk => hk.2) (.int .i64 t167)) (fun _ hk => hk.2) (.int .i64 t168)) (fun _ hk => hk.2) (.slice Ao17 t169.length co17)) (fun _ h_ => h_.1))))) (below_size (zX HB.out (IsS48.ge HI165.out)))); replace HO171 := zA (Kd.R_mono (Kd.R_told (Kd.R_oldK (IsS48.apart (show IsS48 w _ g165 t162 t172 t173 from by repeat (first | (with_reducible first | exact HI165.out | apply IsS48.alloc | apply IsS48.drewN | apply IsS48.drew | apply IsS48.set_1 | apply IsS48.set_2 | refine IsS48.far ?_ NB165_159.out _ | refine IsS48.far ?_ NB165_160.out _ | refine IsS48.far ?_ NB165_161.out _ | refine IsS48.far ?_ NB165_174.out _) | exact HI165.out)) (zR (Kd.R_mono (Kd.R_far (p := ⟨gb174, 3, none⟩) (Kd.R_far (p := ⟨gb174, 2, none⟩) (Kd.R_far (p := ⟨gb174, 1, none⟩) (Kd.R_far (p := ⟨gb174, 0, none⟩) (Kd.R_types HO171.out BK174.out (by decide)) (fun _ hk => hk.2) (.int .i64 t166)) (fun _ hk => hk.2) (.int .i64 t167)) (fun _ hk => hk.2) (.int .i64 t168)) (fun _ hk => hk.2) (.slice Ao17 t169.length co17)) (fun _ h_ => h_.1))) (by decide)) hk) (Kd.R_base ho0)) (fun _ h_ => h_.1)); replace BK174 := zA (KeepBut.blk hk (g' := gb174) (o := .cells #[.int .i64 t166, .int .i64 t167, .int .i64 t168, .slice Ao17 t169.length co17] 26 (0, 0)) (by (with_reducible repeat (first | refine blk_drewN ?_ _ | refine blk_drew ?_ | refine blk_alloc ?_ _)); refine blk_put (cs := #[.int .i64 t166, .int .i64 t167, .int .i64 t168, .slice none 0 0]) ?_ 3 _ rfl; (with_reducible repeat (first | refine blk_drewN ?_ _ | refine blk_drew ?_ | refine blk_alloc ?_ _)); refine blk_put (cs := #[.int .i64 t166, .int .i64 t167, .int .i64 0, .slice none 0 0]) ?_ 2 _ rfl; (with_reducible repeat (first | refine blk_drewN ?_ _ | refine blk_drew ?_ | refine blk_alloc ?_ _)); refine blk_put (cs := #[.int .i64 t166, .int .i64 0, .int .i64 0, .slice none 0 0]) ?_ 1 _ rfl; (with_reducible repeat (first | refine blk_drewN ?_ _ | refine blk_drew ?_ | refine blk_alloc ?_ _)); refine blk_put (cs := #[.int .i64 0, .int .i64 0, .int .i64 0, .slice none 0 0]) ?_ 0 _ rfl; (with_reducible repeat (first | refine blk_drewN ?_ _ | refine blk_drew ?_ | refine blk_alloc ?_ _)); exact BK174.out) NB174_165.out (by simp)); replace HB := zA (hb); replace HI165 := zA (hi); (try clear hb hk hi ho0)) | ((with_reducible refine zd 7 ?_); refine ze 7 26 #[.int .i64 0, .int .i64 0, .int .i64 0, .slice none 0 0] ?_; intro gb183 hg w19 hbox hb; replace HO171 := zr HO171 hb; replace HO180 := zr HO180 hb; have BK183 := zA (hbox); have GW183 := zA ((by rw [hg]; exact (below_size (zX HB.out (IsS48.ge HI165.out))) : w.heap.size ≤ gb183)); have GE183 := zA ((by rw [hg]; exact (below_size (zX HB.out (IsS48.ge HI165.out))) : w.heap.size ≤ gb183)); replace HB := zA (below_step (zX HB.out (IsS48.ge HI165.out)) hb); have NB159_183 := zA (zL hg (zK BK159.out)); have NB183_159 := zA (zJ hg (zK BK159.out)); replace BK159 := zb BK159 hb; have NB160_183 := zA (zL hg (zK BK160.out)); have NB183_160 := zA (zJ hg (zK BK160.out)); replace BK160 := zb BK160 hb; have NB161_183 := zA (zL hg (zK BK161.out)); have NB183_161 := zA (zJ hg (zK BK161.out)); replace BK161 := zb BK161 hb; have NB174_183 := zA (zL hg (zK BK174.out)); have NB183_174 := zA (zJ hg (zK BK174.out)); replace BK174 := zb BK174 hb; have NB165_183 := zA ((by rw [hg]; exact Nat.ne_of_lt (IsS48.lt (show IsS48 w _ g165 t162 t181 t182 from by repeat (first | (with_reducible first | exact HI165.out | apply IsS48.alloc | apply IsS48.drewN | apply IsS48.drew | apply IsS48.set_1 | apply IsS48.set_2 | refine IsS48.far ?_ NB165_159.out _ | refine IsS48.far ?_ NB165_160.out _ | refine IsS48.far ?_ NB165_161.out _ | refine IsS48.far ?_ NB165_174.out _) | exact HI165.out))) : g165 ≠ gb183)); have NB183_165 := zA ((by rw [hg]; exact Nat.ne_of_gt (IsS48.lt (show IsS48 w _ g165 t162 t181 t182 from by repeat (first | (with_reducible first | exact HI165.out | apply IsS48.alloc | apply IsS48.drewN | apply IsS48.drew | apply IsS48.set_1 | apply IsS48.set_2 | refine IsS48.far ?_ NB165_159.out _ | refine IsS48.far ?_ NB165_160.out _ | refine IsS48.far ?_ NB165_161.out _ | refine IsS48.far ?_ NB165_174.out _) | exact HI165.out))) : gb183 ≠ g165)); replace HI165 := zA (IsS48.below (by repeat (first | (with_reducible first | exact HI165.out | apply IsS48.alloc | apply IsS48.drewN | apply IsS48.drew | apply IsS48.set_1 | apply IsS48.set_2 | refine IsS48.far ?_ NB165_159.out _ | refine IsS48.far ?_ NB165_160.out _ | refine IsS48.far ?_ NB165_161.out _ | refine IsS48.far ?_ NB165_174.out _) | exact HI165.out)) hb); clear hb hbox hg; have hnb20 := NB183_159.out; have hnc20 := NB159_183.out; have hnb21 := NB183_160.out; have hnc21 := NB160_183.out; have hnb22 := NB183_161.out; have hnc22 := NB161_183.out; have hnb23 := NB183_174.out; have hnc23 := NB174_183.out; have hnb24 := NB183_165.out; have hnc24 := NB165_183.out; obtain ⟨hcz25_0, hcz25_1, hcz25_2, hcz25_3, hfz25_0, hfz25_1, hfz25_2, hfz25_3⟩ := ze4 BK183.out; obtain ⟨Ao26, co26, eo26⟩ := Kd.R_slice HO180.out; subst eo26))
 have n0_ : Aside0 (Kd.R Kd.string 9 ((((w19.setCell ⟨gb183, 0, none⟩ (.int .i64 t175)).setCell ⟨gb183, 1, none⟩ (.int .i64 t176)).setCell ⟨gb183, 2, none⟩ (.int .i64 t177)).setCell ⟨gb183, 3, none⟩ (.slice Ao26 t178.length co26)) w.heap.size (fun k_ => some k_ ≠ (.slice Ao26 t178.length co26 : Value).ownBlock) (.slice Ao17 t169.length co17) t169) := ⟨by (with_reducible repeat (first | apply Kd.R_alloc | apply Kd.R_drewN | apply Kd.R_drew)); exact Kd.R_mono (Kd.R_far (p := ⟨gb183, 3, none⟩) (Kd.R_far (p := ⟨gb183, 2, none⟩) (Kd.R_far (p := ⟨gb183, 1, none⟩) (Kd.R_far (p := ⟨gb183, 0, none⟩) (Kd.R_types HO171.out BK183.out (by decide)) (fun _ hk => hk.2) (.int .i64 t175)) (fun _ hk => hk.2) (.int .i64 t176)) (fun _ hk => hk.2) (.int .i64 t177)) (fun _ hk => hk.2) (.slice Ao26 t178.length co26)) (fun _ hk => hk.1.2)⟩
 have n1_ : Aside0 (Kd.R Kd.string 9 ((((w19.setCell ⟨gb183, 0, none⟩ (.int .i64 t175)).setCell ⟨gb183, 1, none⟩ (.int .i64 t176)).setCell ⟨gb183, 2, none⟩ (.int .i64 t177)).setCell ⟨gb183, 3, none⟩ (.slice Ao26 t178.length co26)) w.heap.size (fun k_ => some k_ ≠ (.slice Ao17 t169.length co17 : Value).ownBlock) (.slice Ao26 t178.length co26) t178) := ⟨by (with_reducible repeat (first | apply Kd.R_alloc | apply Kd.R_drewN | apply Kd.R_drew)); exact Kd.R_mono (Kd.R_far (p := ⟨gb183, 3, none⟩) (Kd.R_far (p := ⟨gb183, 2, none⟩) (Kd.R_far (p := ⟨gb183, 1, none⟩) (Kd.R_far (p := ⟨gb183, 0, none⟩) (Kd.R_types HO180.out BK183.out (by decide)) (fun _ hk => hk.2) (.int .i64 t175)) (fun _ hk => hk.2) (.int .i64 t176)) (fun _ hk => hk.2) (.int .i64 t177)) (fun _ hk => hk.2) (.slice Ao26 t178.length co26)) (fun _ hk => hk.1.2)⟩
 have n2_ : Aside0 (((((w19.setCell ⟨gb183, 0, none⟩ (.int .i64 t175)).setCell ⟨gb183, 1, none⟩ (.int .i64 t176)).setCell ⟨gb183, 2, none⟩ (.int .i64 t177)).setCell ⟨gb183, 3, none⟩ (.slice Ao26 t178.length co26)).heap[gb159]? = some (.cells #[.int .i64 0, .int .i64 0, .int .i64 0, .slice none 0 0] 26 (0, 0))) := ⟨zK BK159.out⟩
 have n3_ : Aside0 (((((w19.setCell ⟨gb183, 0, none⟩ (.int .i64 t175)).setCell ⟨gb183, 1, none⟩ (.int .i64 t176)).setCell ⟨gb183, 2, none⟩ (.int .i64 t177)).setCell ⟨gb183, 3, none⟩ (.slice Ao26 t178.length co26)).heap[gb160]? = some (.cells #[.int .i64 0, .int .i64 0, .int .i64 0, .slice none 0 0] 26 (0, 0))) := ⟨zK BK160.out⟩
 have n4_ : Aside0 (((((w19.setCell ⟨gb183, 0, none⟩ (.int .i64 t175)).setCell ⟨gb183, 1, none⟩ (.int .i64 t176)).setCell ⟨gb183, 2, none⟩ (.int .i64 t177)).setCell ⟨gb183, 3, none⟩ (.slice Ao26 t178.length co26)).heap[gb161]? = some (.cells #[.int .i64 0, .int .i64 0, .int .i64 0, .slice none 0 0] 26 (0, 0))) := ⟨zK BK161.out⟩
 have n5_ : Aside0 (((((w19.setCell ⟨gb183, 0, none⟩ (.int .i64 t175)).setCell ⟨gb183, 1, none⟩ (.int .i64 t176)).setCell ⟨gb183, 2, none⟩ (.int .i64 t177)).setCell ⟨gb183, 3, none⟩ (.slice Ao26 t178.length co26)).heap[gb174]? = some (.cells #[.int .i64 t166, .int .i64 t167, .int .i64 t168, .slice Ao17 t169.length co17] 26 (0, 0))) := ⟨zK BK174.out⟩
 have n6_ : Aside0 (((((w19.setCell ⟨gb183, 0, none⟩ (.int .i64 t175)).setCell ⟨gb183, 1, none⟩ (.int .i64 t176)).setCell ⟨gb183, 2, none⟩ (.int .i64 t177)).setCell ⟨gb183, 3, none⟩ (.slice Ao26 t178.length co26)).heap[gb183]? = some (.cells #[.int .i64 t175, .int .i64 t176, .int .i64 t177, .slice Ao26 t178.length co26] 26 (0, 0))) := ⟨by (with_reducible repeat (first | refine blk_drewN ?_ _ | refine blk_drew ?_ | refine blk_alloc ?_ _)); refine blk_put (cs := #[.int .i64 t175, .int .i64 t176, .int .i64 t177, .slice none 0 0]) ?_ 3 _ rfl; (with_reducible repeat (first | refine blk_drewN ?_ _ | refine blk_drew ?_ | refine blk_alloc ?_ _)); refine blk_put (cs := #[.int .i64 t175, .int .i64 t176, .int .i64 0, .slice none 0 0]) ?_ 2 _ rfl; (with_reducible repeat (first | refine blk_drewN ?_ _ | refine blk_drew ?_ | refine blk_alloc ?_ _)); refine blk_put (cs := #[.int .i64 t175, .int .i64 0, .int .i64 0, .slice none 0 0]) ?_ 1 _ rfl; (with_reducible repeat (first | refine blk_drewN ?_ _ | refine blk_drew ?_ | refine blk_alloc ?_ _)); refine blk_put (cs := #[.int .i64 0, .int .i64 0, .int .i64 0, .slice none 0 0]) ?_ 0 _ rfl; (with_reducible repeat (first | refine blk_drewN ?_ _ | refine blk_drew ?_ | refine blk_alloc ?_ _)); exact BK183.out⟩
 have n7_ : Aside0 (IsS48 w ((((w19.setCell ⟨gb183, 0, none⟩ (.int .i64 t175)).setCell ⟨gb183, 1, none⟩ (.int .i64 t176)).setCell ⟨gb183, 2, none⟩ (.int .i64 t177)).setCell ⟨gb183, 3, none⟩ (.slice Ao26 t178.length co26)) g165 t162 t181 t182) := ⟨by repeat (first | (with_reducible first | exact HI165.out | apply IsS48.alloc | apply IsS48.drewN | apply IsS48.drew | apply IsS48.set_1 | apply IsS48.set_2 | refine IsS48.far ?_ NB165_159.out _ | refine IsS48.far ?_ NB165_160.out _ | refine IsS48.far ?_ NB165_161.out _ | refine IsS48.far ?_ NB165_174.out _ | refine IsS48.far ?_ NB165_183.out _) | exact HI165.out)⟩
 have n8_ : Aside0 (Below w.heap.size w ((((w19.setCell ⟨gb183, 0, none⟩ (.int .i64 t175)).setCell ⟨gb183, 1, none⟩ (.int .i64 t176)).setCell ⟨gb183, 2, none⟩ (.int .i64 t177)).setCell ⟨gb183, 3, none⟩ (.slice Ao26 t178.length co26))) := ⟨zX HB.out (IsS48.ge HI165.out)⟩
 (try clear HO171)
 (try clear HO180)
 (try clear BK159)
 (try clear BK160)
 (try clear BK161)
 (try clear BK174)
 (try clear BK183)
 (try clear HI165)
 (try clear HB)
 generalize ((((w19.setCell ⟨gb183, 0, none⟩ (.int .i64 t175)).setCell ⟨gb183, 1, none⟩ (.int .i64 t176)).setCell ⟨gb183, 2, none⟩ (.int .i64 t177)).setCell ⟨gb183, 3, none⟩ (.slice Ao26 t178.length co26)) = w27 at n0_ n1_ n2_ n3_ n4_ n5_ n6_ n7_ n8_ ⊢
 have HO171 := n0_
 have HO180 := n1_
 have BK159 := n2_
 have BK160 := n3_
 have BK161 := n4_
 have BK174 := n5_
 have BK183 := n6_
 have HI165 := n7_
 have HB := n8_
 clear n0_ n1_ n2_ n3_ n4_ n5_ n6_ n7_ n8_
 replace HO171 := zA (Kd.R_drew HO171.out)
 replace HO180 := zA (Kd.R_drew HO180.out)
 replace BK159 := zA (blk_drew BK159.out)
 replace BK160 := zA (blk_drew BK160.out)
 replace BK161 := zA (blk_drew BK161.out)
 replace BK174 := zA (blk_drew BK174.out)
 replace BK183 := zA (blk_drew BK183.out)
 replace HI165 := zA (IsS48.drew HI165.out)
 replace HB := zA (below_drew1 HB.out)
 refine start_ (n := 7) (S := fun w' => w'.cell? ⟨gb174, 0, none⟩ = some (.int .i64 t166) ∧ w'.cell? ⟨gb174, 1, none⟩ = some (.int .i64 t167) ∧ w'.cell? ⟨gb174, 2, none⟩ = some (.int .i64 t168) ∧ w'.cell? ⟨gb174, 3, none⟩ = some (.slice Ao17 t169.length co17) ∧ w'.cell? ⟨gb183, 0, none⟩ = some (.int .i64 t175) ∧ w'.cell? ⟨gb183, 1, none⟩ = some (.int .i64 t176) ∧ w'.cell? ⟨gb183, 2, none⟩ = some (.int .i64 t177) ∧ w'.cell? ⟨gb183, 3, none⟩ = some (.slice Ao26 t178.length co26)) (ds := []) (Array.replicate 7 false) (by kernel_rfl) rfl rfl ⟨(blk_cell BK174.out 0).trans rfl, (blk_cell BK174.out 1).trans rfl, (blk_cell BK174.out 2).trans rfl, (blk_cell BK174.out 3).trans rfl, (blk_cell BK183.out 0).trans rfl, (blk_cell BK183.out 1).trans rfl, (blk_cell BK183.out 2).trans rfl, (blk_cell BK183.out 3).trans rfl⟩ (fun hHeld => ?_)
 generalize w27.drew = w28 at HO171 HO180 BK159 BK160 BK161 BK174 BK183 HI165 HB hHeld ⊢
 refine zp 2 16 ?_
 refine zt 0 14 ?_
 refine zt 1 15 ?_
 refine zo 3 (some 17) fun K hK => ?_
 refine goes_ Tryd.func11 (by kernel_rfl) rfl #[.pointer (some ⟨g165, 0, none⟩)] (by rfl) rfl rfl zM ?_
 with_reducible refine (spec_l3Draw.calls k g165 t162 t181 t182 t184 t185 t186 t187 t190 t191 w _ ?side1 ?side2 A5.out).mono ?_
 (case side1 => repeat (first | (with_reducible first | exact HI165.out | apply IsS48.alloc | apply IsS48.drewN | apply IsS48.drew | apply IsS48.set_1 | apply IsS48.set_2 | refine IsS48.far ?_ NB165_159.out _ | refine IsS48.far ?_ NB165_160.out _ | refine IsS48.far ?_ NB165_161.out _ | refine IsS48.far ?_ NB165_174.out _ | refine IsS48.far ?_ NB165_183.out _) | exact HI165.out))
 (case side2 => repeat (first | (with_reducible first | exact HB.out | apply below_alloc | apply pw_below_drewN | apply below_drew1 | refine below_set ?_ (IsS48.ge HI165.out) | refine below_set ?_ GE159.out | refine below_set ?_ GE160.out | refine below_set ?_ GE161.out | refine below_set ?_ GE174.out | refine below_set ?_ GE183.out) | exact HB.out))
 rintro e w29 ⟨v188, rfl, ho0, hi, hb, hk⟩
 refine ⟨_, rfl, ?_⟩
 replace BK159 := zA (KeepBut.blk hk (g' := gb159) (o := .cells #[.int .i64 0, .int .i64 0, .int .i64 0, .slice none 0 0] 26 (0, 0)) (zK BK159.out) NB159_165.out (by simp))
 replace BK160 := zA (KeepBut.blk hk (g' := gb160) (o := .cells #[.int .i64 0, .int .i64 0, .int .i64 0, .slice none 0 0] 26 (0, 0)) (zK BK160.out) NB160_165.out (by simp))
 replace BK161 := zA (KeepBut.blk hk (g' := gb161) (o := .cells #[.int .i64 0, .int .i64 0, .int .i64 0, .slice none 0 0] 26 (0, 0)) (zK BK161.out) NB161_165.out (by simp))
 replace BK174 := zA (KeepBut.blk hk (g' := gb174) (o := .cells #[.int .i64 t166, .int .i64 t167, .int .i64 t168, .slice Ao17 t169.length co17] 26 (0, 0)) (zK BK174.out) NB174_165.out (by simp))
 replace BK183 := zA (KeepBut.blk hk (g' := gb183) (o := .cells #[.int .i64 t175, .int .i64 t176, .int .i64 t177, .slice Ao26 t178.length co26] 26 (0, 0)) (zK BK183.out) NB183_165.out (by simp))
 have HO189 := zA (Kd.R_lower (Kd.R_new' (Kd.R_new' ho0 (Kd.R_lt (zR HO171.out))) (Kd.R_lt (zR HO180.out))) (below_size (zX HB.out (IsS48.ge HI165.out))))
 replace HO171 := zA (Kd.R_mono (Kd.R_told (Kd.R_oldK (IsS48.apart (show IsS48 w _ g165 t162 t181 t182 from by repeat (first | (with_reducible first | exact HI165.out | apply IsS48.alloc | apply IsS48.drewN | apply IsS48.drew | apply IsS48.set_1 | apply IsS48.set_2 | refine IsS48.far ?_ NB165_159.out _ | refine IsS48.far ?_ NB165_160.out _ | refine IsS48.far ?_ NB165_161.out _ | refine IsS48.far ?_ NB165_174.out _ | refine IsS48.far ?_ NB165_183.out _) | exact HI165.out)) (zR HO171.out) (by decide)) hk) (Kd.R_base ho0)) (fun _ h_ => h_.1))
 replace HO180 := zA (Kd.R_mono (Kd.R_told (Kd.R_oldK (IsS48.apart (show IsS48 w _ g165 t162 t181 t182 from by repeat (first | (with_reducible first | exact HI165.out | apply IsS48.alloc | apply IsS48.drewN | apply IsS48.drew | apply IsS48.set_1 | apply IsS48.set_2 | refine IsS48.far ?_ NB165_159.out _ | refine IsS48.far ?_ NB165_160.out _ | refine IsS48.far ?_ NB165_161.out _ | refine IsS48.far ?_ NB165_174.out _ | refine IsS48.far ?_ NB165_183.out _) | exact HI165.out)) (zR HO180.out) (by decide)) hk) (Kd.R_base ho0)) (fun _ h_ => h_.1))
 replace HB := zA (hb)
 replace HI165 := zA (hi)
 (try clear hb hk hi ho0)
 obtain ⟨Ao41, co41, eo41⟩ := Kd.R_slice HO189.out
 (first | subst eo41 | (injection eo41 with f1_ f2_ f3_; have f4_ := f1_.symm; have f5_ := f3_.symm; clear f1_ f2_ f3_; subst f4_; subst f5_))
 refine hK.out _ _ ⟨(blk_cell BK174.out 0).trans rfl, (blk_cell BK174.out 1).trans rfl, (blk_cell BK174.out 2).trans rfl, (blk_cell BK174.out 3).trans rfl, (blk_cell BK183.out 0).trans rfl, (blk_cell BK183.out 1).trans rfl, (blk_cell BK183.out 2).trans rfl, (blk_cell BK183.out 3).trans rfl⟩ (fun hHeld => ?_)
 clear hK K
 refine zn ?_
 refine zo 4 none fun K hK => ?_
 have hs30 : w29.cell? ⟨gb159, 0, none⟩ = some (.int .i64 0) := (blk_cell BK159.out 0).trans rfl
 have hfs30 := zF BK159.out 0
 have hns30_1 := NB160_159.out
 have hns30_2 := NB161_159.out
 have hns30_3 := NB174_159.out
 have hns30_4 := NB183_159.out
 have hms30_1 := NB159_160.out
 have hms30_2 := NB159_161.out
 have hms30_3 := NB159_174.out
 have hms30_4 := NB159_183.out
 have hs31 : w29.cell? ⟨gb159, 1, none⟩ = some (.int .i64 0) := (blk_cell BK159.out 1).trans rfl
 have hfs31 := zF BK159.out 1
 have hns31_1 := NB160_159.out
 have hns31_2 := NB161_159.out
 have hns31_3 := NB174_159.out
 have hns31_4 := NB183_159.out
 have hms31_1 := NB159_160.out
 have hms31_2 := NB159_161.out
 have hms31_3 := NB159_174.out
 have hms31_4 := NB159_183.out
 have hs32 : w29.cell? ⟨gb159, 2, none⟩ = some (.int .i64 0) := (blk_cell BK159.out 2).trans rfl
 have hfs32 := zF BK159.out 2
 have hns32_1 := NB160_159.out
 have hns32_2 := NB161_159.out
 have hns32_3 := NB174_159.out
 have hns32_4 := NB183_159.out
 have hms32_1 := NB159_160.out
 have hms32_2 := NB159_161.out
 have hms32_3 := NB159_174.out
 have hms32_4 := NB159_183.out
 have hs33 : w29.cell? ⟨gb159, 3, none⟩ = some (.slice none 0 0) := (blk_cell BK159.out 3).trans rfl
 have hfs33 := zF BK159.out 3
 have hns33_1 := NB160_159.out
 have hns33_2 := NB161_159.out
 have hns33_3 := NB174_159.out
 have hns33_4 := NB183_159.out
 have hms33_1 := NB159_160.out
 have hms33_2 := NB159_161.out
 have hms33_3 := NB159_174.out
 have hms33_4 := NB159_183.out
 refine skip_ (w1 := ?_) (by rfl) rfl ?_ ?_
 rotate_left
 ·go_simp
  rfl
 refine hK.out _ _ ⟨((cell_far (p := ⟨gb159, _, none⟩) NB174_159.out _).trans (((cell_far (p := ⟨gb159, _, none⟩) NB174_159.out _).trans (((cell_far (p := ⟨gb159, _, none⟩) NB174_159.out _).trans (((cell_far (p := ⟨gb159, _, none⟩) NB174_159.out _).trans (hHeld.1)))))))), ((cell_far (p := ⟨gb159, _, none⟩) NB174_159.out _).trans (((cell_far (p := ⟨gb159, _, none⟩) NB174_159.out _).trans (((cell_far (p := ⟨gb159, _, none⟩) NB174_159.out _).trans (((cell_far (p := ⟨gb159, _, none⟩) NB174_159.out _).trans (hHeld.2.1)))))))), ((cell_far (p := ⟨gb159, _, none⟩) NB174_159.out _).trans (((cell_far (p := ⟨gb159, _, none⟩) NB174_159.out _).trans (((cell_far (p := ⟨gb159, _, none⟩) NB174_159.out _).trans (((cell_far (p := ⟨gb159, _, none⟩) NB174_159.out _).trans (hHeld.2.2.1)))))))), ((cell_far (p := ⟨gb159, _, none⟩) NB174_159.out _).trans (((cell_far (p := ⟨gb159, _, none⟩) NB174_159.out _).trans (((cell_far (p := ⟨gb159, _, none⟩) NB174_159.out _).trans (((cell_far (p := ⟨gb159, _, none⟩) NB174_159.out _).trans (hHeld.2.2.2.1)))))))), ((cell_far (p := ⟨gb159, _, none⟩) NB183_159.out _).trans (((cell_far (p := ⟨gb159, _, none⟩) NB183_159.out _).trans (((cell_far (p := ⟨gb159, _, none⟩) NB183_159.out _).trans (((cell_far (p := ⟨gb159, _, none⟩) NB183_159.out _).trans (hHeld.2.2.2.2.1)))))))), ((cell_far (p := ⟨gb159, _, none⟩) NB183_159.out _).trans (((cell_far (p := ⟨gb159, _, none⟩) NB183_159.out _).trans (((cell_far (p := ⟨gb159, _, none⟩) NB183_159.out _).trans (((cell_far (p := ⟨gb159, _, none⟩) NB183_159.out _).trans (hHeld.2.2.2.2.2.1)))))))), ((cell_far (p := ⟨gb159, _, none⟩) NB183_159.out _).trans (((cell_far (p := ⟨gb159, _, none⟩) NB183_159.out _).trans (((cell_far (p := ⟨gb159, _, none⟩) NB183_159.out _).trans (((cell_far (p := ⟨gb159, _, none⟩) NB183_159.out _).trans (hHeld.2.2.2.2.2.2.1)))))))), ((cell_far (p := ⟨gb159, _, none⟩) NB183_159.out _).trans (((cell_far (p := ⟨gb159, _, none⟩) NB183_159.out _).trans (((cell_far (p := ⟨gb159, _, none⟩) NB183_159.out _).trans (((cell_far (p := ⟨gb159, _, none⟩) NB183_159.out _).trans (hHeld.2.2.2.2.2.2.2))))))))⟩ (fun hHeld => ?_)
 clear hK K
 generalize hW_ : ((((w29.setCell ⟨gb159, 0, none⟩ (.int .i64 t166)).setCell ⟨gb159, 1, none⟩ (.int .i64 t167)).setCell ⟨gb159, 2, none⟩ (.int .i64 t168)).setCell ⟨gb159, 3, none⟩ (.slice Ao17 t169.length co17)) = w971 at hHeld ⊢
 replace HO171 := Mine.row4 HO171 BK159 hW_
 replace HO180 := Mine.row4 HO180 BK159 hW_
 replace HO189 := Mine.row4 HO189 BK159 hW_
 replace HB := Mine.below4 HB GE159 hW_
 replace BK160 := Mine.far4 BK160 NB160_159 hW_
 replace BK161 := Mine.far4 BK161 NB161_159 hW_
 replace BK174 := Mine.far4 BK174 NB174_159 hW_
 replace BK183 := Mine.far4 BK183 NB183_159 hW_
 replace BK159 := Mine.put4 BK159 hW_
 clear hW_
 skip
 refine zo 5 none fun K hK => ?_
 have hs34 : w971.cell? ⟨gb160, 0, none⟩ = some (.int .i64 0) := (blk_cell BK160.out 0).trans rfl
 have hfs34 := zF BK160.out 0
 have hns34_0 := NB159_160.out
 have hns34_2 := NB161_160.out
 have hns34_3 := NB174_160.out
 have hns34_4 := NB183_160.out
 have hms34_0 := NB160_159.out
 have hms34_2 := NB160_161.out
 have hms34_3 := NB160_174.out
 have hms34_4 := NB160_183.out
 have hs35 : w971.cell? ⟨gb160, 1, none⟩ = some (.int .i64 0) := (blk_cell BK160.out 1).trans rfl
 have hfs35 := zF BK160.out 1
 have hns35_0 := NB159_160.out
 have hns35_2 := NB161_160.out
 have hns35_3 := NB174_160.out
 have hns35_4 := NB183_160.out
 have hms35_0 := NB160_159.out
 have hms35_2 := NB160_161.out
 have hms35_3 := NB160_174.out
 have hms35_4 := NB160_183.out
 have hs36 : w971.cell? ⟨gb160, 2, none⟩ = some (.int .i64 0) := (blk_cell BK160.out 2).trans rfl
 have hfs36 := zF BK160.out 2
 have hns36_0 := NB159_160.out
 have hns36_2 := NB161_160.out
 have hns36_3 := NB174_160.out
 have hns36_4 := NB183_160.out
 have hms36_0 := NB160_159.out
 have hms36_2 := NB160_161.out
 have hms36_3 := NB160_174.out
 have hms36_4 := NB160_183.out
 have hs37 : w971.cell? ⟨gb160, 3, none⟩ = some (.slice none 0 0) := (blk_cell BK160.out 3).trans rfl
 have hfs37 := zF BK160.out 3
 have hns37_0 := NB159_160.out
 have hns37_2 := NB161_160.out
 have hns37_3 := NB174_160.out
 have hns37_4 := NB183_160.out
 have hms37_0 := NB160_159.out
 have hms37_2 := NB160_161.out
 have hms37_3 := NB160_174.out
 have hms37_4 := NB160_183.out
 refine skip_ (w1 := ?_) (by rfl) rfl ?_ ?_
 rotate_left
 ·go_simp
  rfl
 refine hK.out _ _ ⟨((cell_far (p := ⟨gb160, _, none⟩) NB174_160.out _).trans (((cell_far (p := ⟨gb160, _, none⟩) NB174_160.out _).trans (((cell_far (p := ⟨gb160, _, none⟩) NB174_160.out _).trans (((cell_far (p := ⟨gb160, _, none⟩) NB174_160.out _).trans (hHeld.1)))))))), ((cell_far (p := ⟨gb160, _, none⟩) NB174_160.out _).trans (((cell_far (p := ⟨gb160, _, none⟩) NB174_160.out _).trans (((cell_far (p := ⟨gb160, _, none⟩) NB174_160.out _).trans (((cell_far (p := ⟨gb160, _, none⟩) NB174_160.out _).trans (hHeld.2.1)))))))), ((cell_far (p := ⟨gb160, _, none⟩) NB174_160.out _).trans (((cell_far (p := ⟨gb160, _, none⟩) NB174_160.out _).trans (((cell_far (p := ⟨gb160, _, none⟩) NB174_160.out _).trans (((cell_far (p := ⟨gb160, _, none⟩) NB174_160.out _).trans (hHeld.2.2.1)))))))), ((cell_far (p := ⟨gb160, _, none⟩) NB174_160.out _).trans (((cell_far (p := ⟨gb160, _, none⟩) NB174_160.out _).trans (((cell_far (p := ⟨gb160, _, none⟩) NB174_160.out _).trans (((cell_far (p := ⟨gb160, _, none⟩) NB174_160.out _).trans (hHeld.2.2.2.1)))))))), ((cell_far (p := ⟨gb160, _, none⟩) NB183_160.out _).trans (((cell_far (p := ⟨gb160, _, none⟩) NB183_160.out _).trans (((cell_far (p := ⟨gb160, _, none⟩) NB183_160.out _).trans (((cell_far (p := ⟨gb160, _, none⟩) NB183_160.out _).trans (hHeld.2.2.2.2.1)))))))), ((cell_far (p := ⟨gb160, _, none⟩) NB183_160.out _).trans (((cell_far (p := ⟨gb160, _, none⟩) NB183_160.out _).trans (((cell_far (p := ⟨gb160, _, none⟩) NB183_160.out _).trans (((cell_far (p := ⟨gb160, _, none⟩) NB183_160.out _).trans (hHeld.2.2.2.2.2.1)))))))), ((cell_far (p := ⟨gb160, _, none⟩) NB183_160.out _).trans (((cell_far (p := ⟨gb160, _, none⟩) NB183_160.out _).trans (((cell_far (p := ⟨gb160, _, none⟩) NB183_160.out _).trans (((cell_far (p := ⟨gb160, _, none⟩) NB183_160.out _).trans (hHeld.2.2.2.2.2.2.1)))))))), ((cell_far (p := ⟨gb160, _, none⟩) NB183_160.out _).trans (((cell_far (p := ⟨gb160, _, none⟩) NB183_160.out _).trans (((cell_far (p := ⟨gb160, _, none⟩) NB183_160.out _).trans (((cell_far (p := ⟨gb160, _, none⟩) NB183_160.out _).trans (hHeld.2.2.2.2.2.2.2))))))))⟩ (fun hHeld => ?_)
 clear hK K
 generalize hW_ : ((((w971.setCell ⟨gb160, 0, none⟩ (.int .i64 t175)).setCell ⟨gb160, 1, none⟩ (.int .i64 t176)).setCell ⟨gb160, 2, none⟩ (.int .i64 t177)).setCell ⟨gb160, 3, none⟩ (.slice Ao26 t178.length co26)) = w972 at hHeld ⊢
 replace HO171 := Mine.row4 HO171 BK160 hW_
 replace HO180 := Mine.row4 HO180 BK160 hW_
 replace HO189 := Mine.row4 HO189 BK160 hW_
 replace HB := Mine.below4 HB GE160 hW_
 replace BK159 := Mine.far4 BK159 NB159_160 hW_
 replace BK161 := Mine.far4 BK161 NB161_160 hW_
 replace BK174 := Mine.far4 BK174 NB174_160 hW_
 replace BK183 := Mine.far4 BK183 NB183_160 hW_
 replace BK160 := Mine.put4 BK160 hW_
 clear hW_
 skip
 refine zo 6 none fun K hK => ?_
 have hs38 : w972.cell? ⟨gb161, 0, none⟩ = some (.int .i64 0) := (blk_cell BK161.out 0).trans rfl
 have hfs38 := zF BK161.out 0
 have hns38_0 := NB159_161.out
 have hns38_1 := NB160_161.out
 have hns38_3 := NB174_161.out
 have hns38_4 := NB183_161.out
 have hms38_0 := NB161_159.out
 have hms38_1 := NB161_160.out
 have hms38_3 := NB161_174.out
 have hms38_4 := NB161_183.out
 have hs39 : w972.cell? ⟨gb161, 1, none⟩ = some (.int .i64 0) := (blk_cell BK161.out 1).trans rfl
 have hfs39 := zF BK161.out 1
 have hns39_0 := NB159_161.out
 have hns39_1 := NB160_161.out
 have hns39_3 := NB174_161.out
 have hns39_4 := NB183_161.out
 have hms39_0 := NB161_159.out
 have hms39_1 := NB161_160.out
 have hms39_3 := NB161_174.out
 have hms39_4 := NB161_183.out
 have hs40 : w972.cell? ⟨gb161, 2, none⟩ = some (.int .i64 0) := (blk_cell BK161.out 2).trans rfl
 have hfs40 := zF BK161.out 2
 have hns40_0 := NB159_161.out
 have hns40_1 := NB160_161.out
 have hns40_3 := NB174_161.out
 have hns40_4 := NB183_161.out
 have hms40_0 := NB161_159.out
 have hms40_1 := NB161_160.out
 have hms40_3 := NB161_174.out
 have hms40_4 := NB161_183.out
 have hs42 : w972.cell? ⟨gb161, 3, none⟩ = some (.slice none 0 0) := (blk_cell BK161.out 3).trans rfl
 have hfs42 := zF BK161.out 3
 have hns42_0 := NB159_161.out
 have hns42_1 := NB160_161.out
 have hns42_3 := NB174_161.out
 have hns42_4 := NB183_161.out
 have hms42_0 := NB161_159.out
 have hms42_1 := NB161_160.out
 have hms42_3 := NB161_174.out
 have hms42_4 := NB161_183.out
 refine skip_ (w1 := ?_) (by rfl) rfl ?_ ?_
 rotate_left
 ·go_simp
  rfl
 refine hK.out _ _ ⟨((cell_far (p := ⟨gb161, _, none⟩) NB174_161.out _).trans (((cell_far (p := ⟨gb161, _, none⟩) NB174_161.out _).trans (((cell_far (p := ⟨gb161, _, none⟩) NB174_161.out _).trans (((cell_far (p := ⟨gb161, _, none⟩) NB174_161.out _).trans (hHeld.1)))))))), ((cell_far (p := ⟨gb161, _, none⟩) NB174_161.out _).trans (((cell_far (p := ⟨gb161, _, none⟩) NB174_161.out _).trans (((cell_far (p := ⟨gb161, _, none⟩) NB174_161.out _).trans (((cell_far (p := ⟨gb161, _, none⟩) NB174_161.out _).trans (hHeld.2.1)))))))), ((cell_far (p := ⟨gb161, _, none⟩) NB174_161.out _).trans (((cell_far (p := ⟨gb161, _, none⟩) NB174_161.out _).trans (((cell_far (p := ⟨gb161, _, none⟩) NB174_161.out _).trans (((cell_far (p := ⟨gb161, _, none⟩) NB174_161.out _).trans (hHeld.2.2.1)))))))), ((cell_far (p := ⟨gb161, _, none⟩) NB174_161.out _).trans (((cell_far (p := ⟨gb161, _, none⟩) NB174_161.out _).trans (((cell_far (p := ⟨gb161, _, none⟩) NB174_161.out _).trans (((cell_far (p := ⟨gb161, _, none⟩) NB174_161.out _).trans (hHeld.2.2.2.1)))))))), ((cell_far (p := ⟨gb161, _, none⟩) NB183_161.out _).trans (((cell_far (p := ⟨gb161, _, none⟩) NB183_161.out _).trans (((cell_far (p := ⟨gb161, _, none⟩) NB183_161.out _).trans (((cell_far (p := ⟨gb161, _, none⟩) NB183_161.out _).trans (hHeld.2.2.2.2.1)))))))), ((cell_far (p := ⟨gb161, _, none⟩) NB183_161.out _).trans (((cell_far (p := ⟨gb161, _, none⟩) NB183_161.out _).trans (((cell_far (p := ⟨gb161, _, none⟩) NB183_161.out _).trans (((cell_far (p := ⟨gb161, _, none⟩) NB183_161.out _).trans (hHeld.2.2.2.2.2.1)))))))), ((cell_far (p := ⟨gb161, _, none⟩) NB183_161.out _).trans (((cell_far (p := ⟨gb161, _, none⟩) NB183_161.out _).trans (((cell_far (p := ⟨gb161, _, none⟩) NB183_161.out _).trans (((cell_far (p := ⟨gb161, _, none⟩) NB183_161.out _).trans (hHeld.2.2.2.2.2.2.1)))))))), ((cell_far (p := ⟨gb161, _, none⟩) NB183_161.out _).trans (((cell_far (p := ⟨gb161, _, none⟩) NB183_161.out _).trans (((cell_far (p := ⟨gb161, _, none⟩) NB183_161.out _).trans (((cell_far (p := ⟨gb161, _, none⟩) NB183_161.out _).trans (hHeld.2.2.2.2.2.2.2))))))))⟩ (fun hHeld => ?_)
 clear hK K
 generalize hW_ : ((((w972.setCell ⟨gb161, 0, none⟩ (.int .i64 t184)).setCell ⟨gb161, 1, none⟩ (.int .i64 t185)).setCell ⟨gb161, 2, none⟩ (.int .i64 t186)).setCell ⟨gb161, 3, none⟩ (.slice Ao41 t187.length co41)) = w973 at hHeld ⊢
 replace HO171 := Mine.row4 HO171 BK161 hW_
 replace HO180 := Mine.row4 HO180 BK161 hW_
 replace HO189 := Mine.row4 HO189 BK161 hW_
 replace HB := Mine.below4 HB GE161 hW_
 replace BK159 := Mine.far4 BK159 NB159_161 hW_
 replace BK160 := Mine.far4 BK160 NB160_161 hW_
 replace BK174 := Mine.far4 BK174 NB174_161 hW_
 replace BK183 := Mine.far4 BK183 NB183_161 hW_
 replace BK161 := Mine.put4 BK161 hW_
 clear hW_
 skip
 refine done_ (by kernel_rfl) ?_
 try go_wp2
 refine bodyPost_ret (results_list (rs := [.cell 2 26, .cell 3 26, .cell 4 26]) rfl (by simp) (.cell gb159 26 #[.int .i64 t166, .int .i64 t167, .int .i64 t168, .slice Ao17 t169.length co17] (0, 0) _ rfl BK159.out Tryd.underlying26 rfl (by kernel_rfl) (.cell gb160 26 #[.int .i64 t175, .int .i64 t176, .int .i64 t177, .slice Ao26 t178.length co26] (0, 0) _ rfl BK160.out Tryd.underlying26 rfl (by kernel_rfl) (.cell gb161 26 #[.int .i64 t184, .int .i64 t185, .int .i64 t186, .slice Ao41 t187.length co41] (0, 0) _ rfl BK161.out Tryd.underlying26 rfl (by kernel_rfl) .nil)))) rfl ?_
 exact ⟨_, _, _, rfl, Kd.R_mono HO171.out (fun _ hk => ⟨hk.1, hk.2⟩), Kd.R_mono HO180.out (fun _ hk => ⟨hk.1, hk.2⟩), Kd.R_mono HO189.out (fun _ hk => ⟨hk.1.2, hk.2⟩), HB.out⟩
/-! ### strings_Split: function 12 -/
def strings_Split.f (a0 a1 : ByteArray) : Option (List ByteArray) := if a0.size < 4294967281 ∧ 1 ≤ a1.size then some (Lib.splitB a1 0 (Lib.countB a0 a1) a0) else none
theorem strings_Split.calls (a0 a1 : ByteArray) (r : List ByteArray) (w : World) (hG : GW w) (h : strings_Split.f a0 a1 = some r) :
  Calls Tryd.prog 12 #[.string a0, .string a1] w fun e w' => ∃ v0_ : Value, e = .returned (v0_) ∧ Kd.R Kd.string 9 w' w.heap.size (fun _ => True) v0_ r ∧ Below w.heap.size w w' := by
 unfold strings_Split.f at h
 split at h
 ·rename_i hs
  obtain rfl := Option.some.inj h
  obtain ⟨m, hm⟩ := hG.maxLen
  refine (Tryd.strings_Split a0 a1 m w hs.1 hm hs.2).mono ?_
  rintro e w' ⟨rfl, rfl⟩
  have hl := Lib.splitB_all a1 hs.2 0 _ a0 rfl
  have hle := Lib.countB_le a1 hs.2 a0.size a0 (Nat.le_refl _)
  exact ⟨_, rfl, Lb.split_R w 9 _ _ hl (by omega), below_alloc (Below.refl _ _) _⟩
 ·cases h
/-! ### impl_inRange: function 27 -/
def impl_inRange.f (a0 : Int) (a1 : Int) (a2 : Int) : Option (Bool) := if a0 ≥ a1 then (some (decide (a0 ≤ a2))) else (some false)
theorem impl_inRange.calls (a0 : Int) (a1 : Int) (a2 : Int) (r : Bool) (w : World) (h : impl_inRange.f a0 a1 a2 = some r) :
  Calls Tryd.prog 27 #[.int .i64 a0, .int .i64 a1, .int .i64 a2] w fun e w' => e = .returned (.bool r) ∧ Drawn0 w w' := by
 have H : (if a0 ≥ a1 then (some (decide (a0 ≤ a2))) else (some false)) = some r := h
 clear h
 by_cases c4 : a0 ≥ a1
 ·rw [if_pos c4] at H
  have c4b0 : decide (a1 ≤ a0) = true := decide_eq_true c4
  clear c4
  obtain rfl := Option.some.inj H
  go_enter Tryd.func27, Tryd.ntmps27
  go_wp2
  go_ret
  exact ⟨by first | rfl | (simp; done) | (simp [*]; done) | (simp; rw [Bool.eq_iff_iff]; simp; done), by repeat (first | exact Drawn0.refl _ | apply Drawn0.step)⟩
 ·rw [if_neg c4] at H
  have c4b0 : decide (a1 ≤ a0) = false := decide_eq_false c4
  clear c4
  obtain rfl := Option.some.inj H
  go_enter Tryd.func27, Tryd.ntmps27
  go_wp2
  go_ret
  exact ⟨by first | rfl | (simp; done) | (simp [*]; done) | (simp; rw [Bool.eq_iff_iff]; simp; done), by repeat (first | exact Drawn0.refl _ | apply Drawn0.step)⟩
/-! ### impl_isSmall: function 53 -/
def impl_isSmall.f (a0 : Int) : Option (Bool) := if a0 ≥ 97 then (some (decide (a0 ≤ 122))) else (some false)
theorem impl_isSmall.calls (a0 : Int) (r : Bool) (w : World) (h : impl_isSmall.f a0 = some r) :
  Calls Tryd.prog 53 #[.int .u8 a0] w fun e w' => e = .returned (.bool r) ∧ Drawn0 w w' := by
 have H : (if a0 ≥ 97 then (some (decide (a0 ≤ 122))) else (some false)) = some r := h
 clear h
 by_cases c2 : a0 ≥ 97
 ·rw [if_pos c2] at H
  have c2b0 : decide (97 ≤ a0) = true := decide_eq_true c2
  clear c2
  obtain rfl := Option.some.inj H
  go_enter Tryd.func53, Tryd.ntmps53
  go_wp2
  go_ret
  exact ⟨by first | rfl | (simp; done) | (simp [*]; done) | (simp; rw [Bool.eq_iff_iff]; simp; done), by repeat (first | exact Drawn0.refl _ | apply Drawn0.step)⟩
 ·rw [if_neg c2] at H
  have c2b0 : decide (97 ≤ a0) = false := decide_eq_false c2
  clear c2
  obtain rfl := Option.some.inj H
  go_enter Tryd.func53, Tryd.ntmps53
  go_wp2
  go_ret
  exact ⟨by first | rfl | (simp; done) | (simp [*]; done) | (simp; rw [Bool.eq_iff_iff]; simp; done), by repeat (first | exact Drawn0.refl _ | apply Drawn0.step)⟩
/-! ### impl_isFigure: function 54 -/
def impl_isFigure.f (a0 : Int) : Option (Bool) := if a0 ≥ 48 then (some (decide (a0 ≤ 57))) else (some false)
theorem impl_isFigure.calls (a0 : Int) (r : Bool) (w : World) (h : impl_isFigure.f a0 = some r) :
  Calls Tryd.prog 54 #[.int .u8 a0] w fun e w' => e = .returned (.bool r) ∧ Drawn0 w w' := by
 have H : (if a0 ≥ 48 then (some (decide (a0 ≤ 57))) else (some false)) = some r := h
 clear h
 by_cases c2 : a0 ≥ 48
 ·rw [if_pos c2] at H
  have c2b0 : decide (48 ≤ a0) = true := decide_eq_true c2
  clear c2
  obtain rfl := Option.some.inj H
  go_enter Tryd.func54, Tryd.ntmps54
  go_wp2
  go_ret
  exact ⟨by first | rfl | (simp; done) | (simp [*]; done) | (simp; rw [Bool.eq_iff_iff]; simp; done), by repeat (first | exact Drawn0.refl _ | apply Drawn0.step)⟩
 ·rw [if_neg c2] at H
  have c2b0 : decide (48 ≤ a0) = false := decide_eq_false c2
  clear c2
  obtain rfl := Option.some.inj H
  go_enter Tryd.func54, Tryd.ntmps54
  go_wp2
  go_ret
  exact ⟨by first | rfl | (simp; done) | (simp [*]; done) | (simp; rw [Bool.eq_iff_iff]; simp; done), by repeat (first | exact Drawn0.refl _ | apply Drawn0.step)⟩
/-! ### impl_isFigures: function 55 -/
def impl_isFigures.l0 : Nat → ByteArray → Int → Option (Bool)
 | 0, _, _ => none
 | k + 1, x0, x3 => if x3 < (x0.size : Int) then (if 0 ≤ x3 then ((impl_isFigure.f (bt x0 x3)).bind fun t192 => (if t192 = true then (impl_isFigures.l0 k x0 (wrap64 (x3 + 1))) else (some false))) else (none)) else (some (x0.toList != ([] : List UInt8)))
def impl_isFigures.f (k : Nat) (a0 : ByteArray) : Option (Bool) := impl_isFigures.l0 k a0 0
theorem impl_isFigures.calls (k : Nat) (a0 : ByteArray) (r : Bool) (w : World) (h : impl_isFigures.f k a0 = some r) :
  Calls Tryd.prog 55 #[.string a0] w fun e w' => e = .returned (.bool r) ∧ Drawn0 w w' := by
 have H : (impl_isFigures.l0 k a0 0) = some r := h
 clear h
 have H' := Aside0.mk H
 clear H
 go_enter Tryd.func55, Tryd.ntmps55
 go_wp2
 go_loopg [3] k (fun kq v3 w' => ∃ (x3_1 : Int), v3 = .int .i64 x3_1 ∧ Aside0 (impl_isFigures.l0 kq a0 x3_1 = some r) ∧ Aside0 (kq ≤ k) ∧ Drawn0 w w')
 case atStart => exact ⟨(0), zS, H', ⟨Nat.le_refl _⟩, by repeat (first | exact Drawn0.refl _ | apply Drawn0.step)⟩
 case round =>
  clear H'
  obtain ⟨x3_1, rfl, HA, HK1, ⟨m1, rfl⟩⟩ := hrel
  cases gk with
  | zero => exact absurd HA.out (by simp [impl_isFigures.l0])
  | succ k1 =>
   have H := HA.out
   clear HA
   simp only [impl_isFigures.l0] at H
   by_cases c2 : x3_1 < (a0.size : Int)
   ·rw [if_pos c2] at H
    have c2b0 := decide_eq_true c2
    clear c2
    by_cases c3 : 0 ≤ x3_1
    ·rw [if_pos c3] at H
     have c3b0 := decide_eq_true c3
     clear c3
     replace H := Option.bind_eq_some_iff.mp H
     obtain ⟨t192, A50, H⟩ := H
     try dsimp only at H
     have A5 := Aside0.mk A50
     clear A50
     by_cases c6 : t192 = true
     ·subst c6
      rw [if_pos rfl] at H
      have H' := Aside0.mk H
      clear H
      have p4 : 0 ≤ (x3_1 : Int) := zD
      have q4 : x3_1 < (a0.size : Int) := zD
      have hx4 := bt_at a0 x3_1
      replace p4 := eq_true p4
      replace q4 := eq_true q4
      go_wp2_with (first | ((with_reducible refine zq 54 ?_); refine zg (some 13) Tryd.func54 #[.int .u8 (bt a0 x3_1)] ?_; (with_reducible refine (impl_isFigure.calls (bt a0 x3_1) true _ A5.out).mono ?_); rintro e w' ⟨rfl, ⟨nd, rfl⟩⟩; refine ⟨_, rfl, ?_⟩))
      go_roundg k1
      case measure => have := HK1.out; omega
      case rel => exact ⟨(wrap64 (x3_1 + 1)), zS, H', ⟨by have := HK1.out; omega⟩, by repeat (first | exact Drawn0.refl _ | apply Drawn0.step)⟩
     ·replace c6 := Bool.eq_false_iff.mpr c6
      subst c6
      rw [if_neg zFT] at H
      obtain rfl := Option.some.inj H
      have p4 : 0 ≤ (x3_1 : Int) := zD
      have q4 : x3_1 < (a0.size : Int) := zD
      have hx4 := bt_at a0 x3_1
      replace p4 := eq_true p4
      replace q4 := eq_true q4
      go_wp2_with (first | ((with_reducible refine zq 54 ?_); refine zg (some 13) Tryd.func54 #[.int .u8 (bt a0 x3_1)] ?_; (with_reducible refine (impl_isFigure.calls (bt a0 x3_1) false _ A5.out).mono ?_); rintro e w' ⟨rfl, ⟨nd, rfl⟩⟩; refine ⟨_, rfl, ?_⟩))
      go_ret
      exact ⟨by first | rfl | (simp; done) | (simp [*]; done) | (simp; rw [Bool.eq_iff_iff]; simp; done), by repeat (first | exact Drawn0.refl _ | apply Drawn0.step)⟩
    ·rw [if_neg c3] at H
     exact absurd H (by simp)
   ·rw [if_neg c2] at H
    have c2b0 := decide_eq_false c2
    clear c2
    obtain rfl := Option.some.inj H
    go_wp2
    go_ret
    exact ⟨by first | rfl | (simp; done) | (simp [*]; done) | (simp; rw [Bool.eq_iff_iff]; simp; done), by repeat (first | exact Drawn0.refl _ | apply Drawn0.step)⟩
/-! ### impl_preOk: function 26 -/
mutual
def impl_preOk.l0 : Nat → ByteArray → Int → Option (Bool)
 | 0, _, _ => none
 | k + 1, x0, x3 => if x3 < (x0.size : Int) then (impl_preOk.j1 k x0 x3) else ((impl_inRange.f (x0.size : Int) 1 8).bind fun t193 => (if t193 = true then ((impl_isFigures.f k x0).bind fun t194 => (if t194 = true then (if x0.toList = ([48] : List UInt8) then (some true) else (if 0 < (x0.size : Int) then (some ((bt x0 0) != 48)) else (none))) else (some true))) else (some false)))
def impl_preOk.j1 : Nat → ByteArray → Int → Option (Bool)
 | 0, _, _ => none
 | k + 1, x0, x3 => if 0 ≤ x3 then (if x3 < (x0.size : Int) then ((impl_isSmall.f (bt x0 x3)).bind fun t195 => (if t195 = true then (impl_preOk.l0 k x0 (wrap64 (x3 + 1))) else (if (bt x0 x3) ≥ 65 then (if ((bt x0 x3) ≤ 90) then (impl_preOk.l0 k x0 (wrap64 (x3 + 1))) else ((impl_isFigure.f (bt x0 x3)).bind fun t196 => (if t196 = true then (impl_preOk.l0 k x0 (wrap64 (x3 + 1))) else (if (bt x0 x3) = 45 then (impl_preOk.l0 k x0 (wrap64 (x3 + 1))) else (some false))))) else ((impl_isFigure.f (bt x0 x3)).bind fun t197 => (if t197 = true then (impl_preOk.l0 k x0 (wrap64 (x3 + 1))) else (if (bt x0 x3) = 45 then (impl_preOk.l0 k x0 (wrap64 (x3 + 1))) else (some false))))))) else (none)) else (none)
end
def impl_preOk.f (k : Nat) (a0 : ByteArray) : Option (Bool) := impl_preOk.l0 k a0 0
theorem impl_preOk.calls (k : Nat) (a0 : ByteArray) (r : Bool) (w : World) (h : impl_preOk.f k a0 = some r) :
  Calls Tryd.prog 26 #[.string a0] w fun e w' => e = .returned (.bool r) ∧ Drawn0 w w' := by
 have H : (impl_preOk.l0 k a0 0) = some r := h
 clear h
 have H' := Aside0.mk H
 clear H
 go_enter Tryd.func26, Tryd.ntmps26
 go_wp2
 go_loopg [3] k (fun kq v3 w' => ∃ (x3_1 : Int), v3 = .int .i64 x3_1 ∧ Aside0 (impl_preOk.l0 kq a0 x3_1 = some r) ∧ Aside0 (kq ≤ k) ∧ Drawn0 w w')
 case atStart => exact ⟨(0), zS, H', ⟨Nat.le_refl _⟩, by repeat (first | exact Drawn0.refl _ | apply Drawn0.step)⟩
 case round =>
  clear H'
  obtain ⟨x3_1, rfl, HA, HK1, ⟨m1, rfl⟩⟩ := hrel
  cases gk with
  | zero => exact absurd HA.out (by simp [impl_preOk.l0])
  | succ k1 =>
   have H := HA.out
   clear HA
   simp only [impl_preOk.l0] at H
   have HC2 := Aside0.mk H
   clear H
   go_upto_if 8 with (fail)
   go_cut [] (fun wc => ∃ (kq : Nat), Aside0 (impl_preOk.j1 kq a0 x3_1 = some r) ∧ Aside0 (kq ≤ k1) ∧ Drawn0 w wc)
   case first =>
    have H := HC2.out
    clear HC2
    by_cases c3 : x3_1 < (a0.size : Int)
    ·rw [if_pos c3] at H
     have c3b0 := decide_eq_true c3
     clear c3
     (first | rw [c3b0] | (simp only [i64_w, i32_w]; rw [c3b0]) | skip)
     have H' := Aside0.mk H
     clear H
     go_wp2
     go_meet
     case rel => exact ⟨_, (by first | exact H' | (subst_vars; exact H')), ⟨by have := HK1.out; first | omega | exact Nat.le_refl _⟩, by repeat (first | exact Drawn0.refl _ | apply Drawn0.step)⟩
    ·rw [if_neg c3] at H
     have c3b0 := decide_eq_false c3
     clear c3
     (first | rw [c3b0] | (simp only [i64_w, i32_w]; rw [c3b0]) | skip)
     replace H := Option.bind_eq_some_iff.mp H
     obtain ⟨t193, A40, H⟩ := H
     try dsimp only at H
     have A4 := Aside0.mk A40
     clear A40
     by_cases c5 : t193 = true
     ·subst c5
      rw [if_pos rfl] at H
      replace H := Option.bind_eq_some_iff.mp H
      obtain ⟨t194, A60, H⟩ := H
      try dsimp only at H
      have A6 := Aside0.mk A60
      clear A60
      by_cases c7 : t194 = true
      ·subst c7
       rw [if_pos rfl] at H
       by_cases c8 : a0.toList = ([48] : List UInt8)
       ·rw [if_pos c8] at H
        have c8b0 : (a0.toList == ([48] : List UInt8)) = true := beq_iff_eq.mpr c8
        have c8b1 : (a0.toList != ([48] : List UInt8)) = false := bne_eq_false_iff_eq.mpr c8
        clear c8
        obtain rfl := Option.some.inj H
        go_wp2_with (first | ((with_reducible refine zq 27 ?_); refine zg (some 37) Tryd.func27 #[.int .i64 (a0.size : Int), .int .i64 1, .int .i64 8] ?_; (with_reducible refine (impl_inRange.calls (a0.size : Int) 1 8 true _ A4.out).mono ?_); rintro e w' ⟨rfl, ⟨nd, rfl⟩⟩; refine ⟨_, rfl, ?_⟩) | (go_at_call 55; (with_reducible refine (impl_isFigures.calls k1 a0 true _ A6.out).mono ?_); rintro e w' ⟨rfl, ⟨nd, rfl⟩⟩))
        go_ret
        exact ⟨by first | rfl | (simp; done) | (simp [*]; done) | (simp; rw [Bool.eq_iff_iff]; simp; done), by repeat (first | exact Drawn0.refl _ | apply Drawn0.step)⟩
       ·rw [if_neg c8] at H
        have c8b0 : (a0.toList == ([48] : List UInt8)) = false := beq_eq_false_iff_ne.mpr c8
        have c8b1 : (a0.toList != ([48] : List UInt8)) = true := bne_iff_ne.mpr c8
        by_cases c9 : 0 < (a0.size : Int)
        ·rw [if_pos c9] at H
         have c9b0 := decide_eq_true c9
         have c9b1 : decide (0 < a0.size) = true := decide_eq_true (by omega)
         clear c9
         obtain rfl := Option.some.inj H
         go_wp2_with (first | ((with_reducible refine zq 27 ?_); refine zg (some 37) Tryd.func27 #[.int .i64 (a0.size : Int), .int .i64 1, .int .i64 8] ?_; (with_reducible refine (impl_inRange.calls (a0.size : Int) 1 8 true _ A4.out).mono ?_); rintro e w' ⟨rfl, ⟨nd, rfl⟩⟩; refine ⟨_, rfl, ?_⟩) | (go_at_call 55; (with_reducible refine (impl_isFigures.calls k1 a0 true _ A6.out).mono ?_); rintro e w' ⟨rfl, ⟨nd, rfl⟩⟩; have p10 : 0 ≤ (0 : Int) := (by omega); have q10 : 0 < a0.size := (by have : (0 : Int) < (a0.size : Int) := zD; omega); have hx10 : ∀ h : 0 < a0.size, ((a0[0]'h).toNat : Int) = bt a0 0 := bt_at a0 0; clear p10; have qi10 : (0 < (a0.size : Int)) = True := eq_true (zD); replace q10 := eq_true q10))
         go_ret
         exact ⟨by first | rfl | (simp; done) | (simp [*]; done) | (simp; rw [Bool.eq_iff_iff]; simp; done), by repeat (first | exact Drawn0.refl _ | apply Drawn0.step)⟩
        ·rw [if_neg c9] at H
         exact absurd H (by simp)
      ·replace c7 := Bool.eq_false_iff.mpr c7
       subst c7
       rw [if_neg zFT] at H
       obtain rfl := Option.some.inj H
       go_wp2_with (first | ((with_reducible refine zq 27 ?_); refine zg (some 37) Tryd.func27 #[.int .i64 (a0.size : Int), .int .i64 1, .int .i64 8] ?_; (with_reducible refine (impl_inRange.calls (a0.size : Int) 1 8 true _ A4.out).mono ?_); rintro e w' ⟨rfl, ⟨nd, rfl⟩⟩; refine ⟨_, rfl, ?_⟩) | (go_at_call 55; (with_reducible refine (impl_isFigures.calls k1 a0 false _ A6.out).mono ?_); rintro e w' ⟨rfl, ⟨nd, rfl⟩⟩))
       go_ret
       exact ⟨by first | rfl | (simp; done) | (simp [*]; done) | (simp; rw [Bool.eq_iff_iff]; simp; done), by repeat (first | exact Drawn0.refl _ | apply Drawn0.step)⟩
     ·replace c5 := Bool.eq_false_iff.mpr c5
      subst c5
      rw [if_neg zFT] at H
      obtain rfl := Option.some.inj H
      go_wp2_with (first | ((with_reducible refine zq 27 ?_); refine zg (some 37) Tryd.func27 #[.int .i64 (a0.size : Int), .int .i64 1, .int .i64 8] ?_; (with_reducible refine (impl_inRange.calls (a0.size : Int) 1 8 false _ A4.out).mono ?_); rintro e w' ⟨rfl, ⟨nd, rfl⟩⟩; refine ⟨_, rfl, ?_⟩))
      go_ret
      exact ⟨by first | rfl | (simp; done) | (simp [*]; done) | (simp; rw [Bool.eq_iff_iff]; simp; done), by repeat (first | exact Drawn0.refl _ | apply Drawn0.step)⟩
   case rest =>
    clear HC2
    try clear p1
    try clear q1
    try clear hx1
    try clear qi1
    try clear c2
    try clear p2
    try clear c3
    try clear c3b0
    try clear c5
    try clear c7
    try clear c8
    try clear c8b0
    try clear c8b1
    try clear c9
    try clear c9b0
    try clear c9b1
    try clear p10
    try clear q10
    try clear hx10
    try clear qi10
    try clear p10
    try clear q10
    obtain ⟨kq, HA, HJ1, ⟨mc1, rfl⟩⟩ := hcut
    cases kq with
    | zero => exact absurd HA.out (by simp [impl_preOk.j1])
    | succ kj1 =>
     have H := HA.out
     clear HA
     simp only [impl_preOk.j1] at H
     by_cases c11 : 0 ≤ x3_1
     ·rw [if_pos c11] at H
      have c11b0 := decide_eq_true c11
      clear c11
      by_cases c12 : x3_1 < (a0.size : Int)
      ·rw [if_pos c12] at H
       have c12b0 := decide_eq_true c12
       clear c12
       replace H := Option.bind_eq_some_iff.mp H
       obtain ⟨t195, A140, H⟩ := H
       try dsimp only at H
       have A14 := Aside0.mk A140
       clear A140
       by_cases c15 : t195 = true
       ·subst c15
        rw [if_pos rfl] at H
        have H' := Aside0.mk H
        clear H
        have p13 : 0 ≤ (x3_1 : Int) := zD
        have q13 : x3_1 < (a0.size : Int) := zD
        have hx13 := bt_at a0 x3_1
        replace p13 := eq_true p13
        replace q13 := eq_true q13
        go_wp2_with (first | ((with_reducible refine zq 53 ?_); refine zg (some 15) Tryd.func53 #[.int .u8 (bt a0 x3_1)] ?_; (with_reducible refine (impl_isSmall.calls (bt a0 x3_1) true _ A14.out).mono ?_); rintro e w' ⟨rfl, ⟨nd, rfl⟩⟩; refine ⟨_, rfl, ?_⟩))
        go_roundg kj1
        case measure => have := HK1.out; have := HJ1.out; omega
        case rel => exact ⟨(wrap64 (x3_1 + 1)), zS, H', ⟨by have := HK1.out; have := HJ1.out; omega⟩, by repeat (first | exact Drawn0.refl _ | apply Drawn0.step)⟩
       ·replace c15 := Bool.eq_false_iff.mpr c15
        subst c15
        rw [if_neg zFT] at H
        by_cases c16 : (bt a0 x3_1) ≥ 65
        ·rw [if_pos c16] at H
         have c16b0 : decide (65 ≤ (bt a0 x3_1)) = true := decide_eq_true c16
         clear c16
         by_cases c17 : ((bt a0 x3_1) ≤ 90)
         ·rw [if_pos c17] at H
          have c17b0 : decide ((bt a0 x3_1) ≤ 90) = true := decide_eq_true c17
          clear c17
          have H' := Aside0.mk H
          clear H
          have p13 : 0 ≤ (x3_1 : Int) := zD
          have q13 : x3_1 < (a0.size : Int) := zD
          have hx13 := bt_at a0 x3_1
          replace p13 := eq_true p13
          replace q13 := eq_true q13
          go_wp2_with (first | ((with_reducible refine zq 53 ?_); refine zg (some 15) Tryd.func53 #[.int .u8 (bt a0 x3_1)] ?_; (with_reducible refine (impl_isSmall.calls (bt a0 x3_1) false _ A14.out).mono ?_); rintro e w' ⟨rfl, ⟨nd, rfl⟩⟩; refine ⟨_, rfl, ?_⟩))
          go_roundg kj1
          case measure => have := HK1.out; have := HJ1.out; omega
          case rel => exact ⟨(wrap64 (x3_1 + 1)), zS, H', ⟨by have := HK1.out; have := HJ1.out; omega⟩, by repeat (first | exact Drawn0.refl _ | apply Drawn0.step)⟩
         ·rw [if_neg c17] at H
          have c17b0 : decide ((bt a0 x3_1) ≤ 90) = false := decide_eq_false c17
          clear c17
          replace H := Option.bind_eq_some_iff.mp H
          obtain ⟨t196, A180, H⟩ := H
          try dsimp only at H
          have A18 := Aside0.mk A180
          clear A180
          by_cases c19 : t196 = true
          ·subst c19
           rw [if_pos rfl] at H
           have H' := Aside0.mk H
           clear H
           have p13 : 0 ≤ (x3_1 : Int) := zD
           have q13 : x3_1 < (a0.size : Int) := zD
           have hx13 := bt_at a0 x3_1
           replace p13 := eq_true p13
           replace q13 := eq_true q13
           go_wp2_with (first | ((with_reducible refine zq 53 ?_); refine zg (some 15) Tryd.func53 #[.int .u8 (bt a0 x3_1)] ?_; (with_reducible refine (impl_isSmall.calls (bt a0 x3_1) false _ A14.out).mono ?_); rintro e w' ⟨rfl, ⟨nd, rfl⟩⟩; refine ⟨_, rfl, ?_⟩) | (go_at_call 54; (with_reducible refine (impl_isFigure.calls (bt a0 x3_1) true _ A18.out).mono ?_); rintro e w' ⟨rfl, ⟨nd, rfl⟩⟩))
           go_roundg kj1
           case measure => have := HK1.out; have := HJ1.out; omega
           case rel => exact ⟨(wrap64 (x3_1 + 1)), zS, H', ⟨by have := HK1.out; have := HJ1.out; omega⟩, by repeat (first | exact Drawn0.refl _ | apply Drawn0.step)⟩
          ·replace c19 := Bool.eq_false_iff.mpr c19
           subst c19
           rw [if_neg zFT] at H
           by_cases c20 : (bt a0 x3_1) = 45
           ·rw [if_pos c20] at H
            have c20b0 : ((bt a0 x3_1) == 45) = true := beq_iff_eq.mpr c20
            have c20b1 : ((bt a0 x3_1) != 45) = false := bne_eq_false_iff_eq.mpr c20
            clear c20
            have H' := Aside0.mk H
            clear H
            have p13 : 0 ≤ (x3_1 : Int) := zD
            have q13 : x3_1 < (a0.size : Int) := zD
            have hx13 := bt_at a0 x3_1
            replace p13 := eq_true p13
            replace q13 := eq_true q13
            go_wp2_with (first | ((with_reducible refine zq 53 ?_); refine zg (some 15) Tryd.func53 #[.int .u8 (bt a0 x3_1)] ?_; (with_reducible refine (impl_isSmall.calls (bt a0 x3_1) false _ A14.out).mono ?_); rintro e w' ⟨rfl, ⟨nd, rfl⟩⟩; refine ⟨_, rfl, ?_⟩) | (go_at_call 54; (with_reducible refine (impl_isFigure.calls (bt a0 x3_1) false _ A18.out).mono ?_); rintro e w' ⟨rfl, ⟨nd, rfl⟩⟩))
            go_roundg kj1
            case measure => have := HK1.out; have := HJ1.out; omega
            case rel => exact ⟨(wrap64 (x3_1 + 1)), zS, H', ⟨by have := HK1.out; have := HJ1.out; omega⟩, by repeat (first | exact Drawn0.refl _ | apply Drawn0.step)⟩
           ·rw [if_neg c20] at H
            have c20b0 : ((bt a0 x3_1) == 45) = false := beq_eq_false_iff_ne.mpr c20
            have c20b1 : ((bt a0 x3_1) != 45) = true := bne_iff_ne.mpr c20
            obtain rfl := Option.some.inj H
            have p13 : 0 ≤ (x3_1 : Int) := zD
            have q13 : x3_1 < (a0.size : Int) := zD
            have hx13 := bt_at a0 x3_1
            replace p13 := eq_true p13
            replace q13 := eq_true q13
            go_wp2_with (first | ((with_reducible refine zq 53 ?_); refine zg (some 15) Tryd.func53 #[.int .u8 (bt a0 x3_1)] ?_; (with_reducible refine (impl_isSmall.calls (bt a0 x3_1) false _ A14.out).mono ?_); rintro e w' ⟨rfl, ⟨nd, rfl⟩⟩; refine ⟨_, rfl, ?_⟩) | (go_at_call 54; (with_reducible refine (impl_isFigure.calls (bt a0 x3_1) false _ A18.out).mono ?_); rintro e w' ⟨rfl, ⟨nd, rfl⟩⟩))
            go_ret
            exact ⟨by first | rfl | (simp; done) | (simp [*]; done) | (simp; rw [Bool.eq_iff_iff]; simp; done), by repeat (first | exact Drawn0.refl _ | apply Drawn0.step)⟩
        ·rw [if_neg c16] at H
         have c16b0 : decide (65 ≤ (bt a0 x3_1)) = false := decide_eq_false c16
         clear c16
         replace H := Option.bind_eq_some_iff.mp H
         obtain ⟨t197, A210, H⟩ := H
         try dsimp only at H
         have A21 := Aside0.mk A210
         clear A210
         by_cases c22 : t197 = true
         ·subst c22
          rw [if_pos rfl] at H
          have H' := Aside0.mk H
          clear H
          have p13 : 0 ≤ (x3_1 : Int) := zD
          have q13 : x3_1 < (a0.size : Int) := zD
          have hx13 := bt_at a0 x3_1
          replace p13 := eq_true p13
          replace q13 := eq_true q13
          go_wp2_with (first | ((with_reducible refine zq 53 ?_); refine zg (some 15) Tryd.func53 #[.int .u8 (bt a0 x3_1)] ?_; (with_reducible refine (impl_isSmall.calls (bt a0 x3_1) false _ A14.out).mono ?_); rintro e w' ⟨rfl, ⟨nd, rfl⟩⟩; refine ⟨_, rfl, ?_⟩) | (go_at_call 54; (with_reducible refine (impl_isFigure.calls (bt a0 x3_1) true _ A21.out).mono ?_); rintro e w' ⟨rfl, ⟨nd, rfl⟩⟩))
          go_roundg kj1
          case measure => have := HK1.out; have := HJ1.out; omega
          case rel => exact ⟨(wrap64 (x3_1 + 1)), zS, H', ⟨by have := HK1.out; have := HJ1.out; omega⟩, by repeat (first | exact Drawn0.refl _ | apply Drawn0.step)⟩
         ·replace c22 := Bool.eq_false_iff.mpr c22
          subst c22
          rw [if_neg zFT] at H
          by_cases c23 : (bt a0 x3_1) = 45
          ·rw [if_pos c23] at H
           have c23b0 : ((bt a0 x3_1) == 45) = true := beq_iff_eq.mpr c23
           have c23b1 : ((bt a0 x3_1) != 45) = false := bne_eq_false_iff_eq.mpr c23
           clear c23
           have H' := Aside0.mk H
           clear H
           have p13 : 0 ≤ (x3_1 : Int) := zD
           have q13 : x3_1 < (a0.size : Int) := zD
           have hx13 := bt_at a0 x3_1
           replace p13 := eq_true p13
           replace q13 := eq_true q13
           go_wp2_with (first | ((with_reducible refine zq 53 ?_); refine zg (some 15) Tryd.func53 #[.int .u8 (bt a0 x3_1)] ?_; (with_reducible refine (impl_isSmall.calls (bt a0 x3_1) false _ A14.out).mono ?_); rintro e w' ⟨rfl, ⟨nd, rfl⟩⟩; refine ⟨_, rfl, ?_⟩) | (go_at_call 54; (with_reducible refine (impl_isFigure.calls (bt a0 x3_1) false _ A21.out).mono ?_); rintro e w' ⟨rfl, ⟨nd, rfl⟩⟩))
           go_roundg kj1
           case measure => have := HK1.out; have := HJ1.out; omega
           case rel => exact ⟨(wrap64 (x3_1 + 1)), zS, H', ⟨by have := HK1.out; have := HJ1.out; omega⟩, by repeat (first | exact Drawn0.refl _ | apply Drawn0.step)⟩
          ·rw [if_neg c23] at H
           have c23b0 : ((bt a0 x3_1) == 45) = false := beq_eq_false_iff_ne.mpr c23
           have c23b1 : ((bt a0 x3_1) != 45) = true := bne_iff_ne.mpr c23
           obtain rfl := Option.some.inj H
           have p13 : 0 ≤ (x3_1 : Int) := zD
           have q13 : x3_1 < (a0.size : Int) := zD
           have hx13 := bt_at a0 x3_1
           replace p13 := eq_true p13
           replace q13 := eq_true q13
           go_wp2_with (first | ((with_reducible refine zq 53 ?_); refine zg (some 15) Tryd.func53 #[.int .u8 (bt a0 x3_1)] ?_; (with_reducible refine (impl_isSmall.calls (bt a0 x3_1) false _ A14.out).mono ?_); rintro e w' ⟨rfl, ⟨nd, rfl⟩⟩; refine ⟨_, rfl, ?_⟩) | (go_at_call 54; (with_reducible refine (impl_isFigure.calls (bt a0 x3_1) false _ A21.out).mono ?_); rintro e w' ⟨rfl, ⟨nd, rfl⟩⟩))
           go_ret
           exact ⟨by first | rfl | (simp; done) | (simp [*]; done) | (simp; rw [Bool.eq_iff_iff]; simp; done), by repeat (first | exact Drawn0.refl _ | apply Drawn0.step)⟩
      ·rw [if_neg c12] at H
       exact absurd H (by simp)
     ·rw [if_neg c11] at H
      exact absurd H (by simp)
end Go.Proofs.YtpcdhoeoefoeoaaDoor.PGA
