/- The walks of the functions that these laws reach, and what each comes to: printed by this session's program. -/
import Derived.Test.YtbjgmbhkofgjaaaDoorZGBPGBx0
import Derived.Test.YtbjgmbhkofgjaaaDoorZGBPGBx1
import Derived.Test.YtbjgmbhkofgjaaaDoorZGBPGBx2
import Derived.Test.YtbjgmbhkofgjaaaDoorZGBSays
import Derived.Test.YtbjgmbhkofgjaaaDoorZGBRegs
namespace Go.Proofs.YtbjgmbhkofgjaaaDoor.PGB
open Go.RowKit Go.Proofs.YtbjgmbhkofgjaaaDoorW.PrintWords Go.Proofs.YtbjgmbhkofgjaaaDoorW.PrintLast Go.Proofs.YtbjgmbhkofgjaaaDoorW.PrintMore
attribute [local go_sem high] Go.Proofs.YtbjgmbhkofgjaaaDoor.Mine.str_gtr Go.Proofs.YtbjgmbhkofgjaaaDoor.Mine.str_leq Go.Proofs.YtbjgmbhkofgjaaaDoor.Mine.str_geq
attribute [local go_sem] max2_int min2_int max_two min_two max_three min_three max_four min_four   -- for this text's walks alone
set_option linter.unusedVariables false
set_option maxHeartbeats 8000000
set_option maxRecDepth 100000
set_option linter.unusedSimpArgs false
/-! ### spec_DrawVers: function 11 -/
def spec_DrawVers.f (k : Nat) (l0 : List Int) : Option (Int × Int × Int × List ByteArray × Int × Int × Int × List ByteArray × Int × Int × Int × List ByteArray) := (spec_l1New.f k l0).bind fun bt335 => ((spec_l3Draw.f k bt335.1 bt335.2.1 bt335.2.2).bind fun bt339 => ((spec_l3Draw.f k bt335.1 bt339.2.2.2.2.1 bt339.2.2.2.2.2).bind fun bt348 => ((spec_l3Draw.f k bt335.1 bt348.2.2.2.2.1 bt348.2.2.2.2.2).bind fun bt357 => (some (bt339.1, bt339.2.1, bt339.2.2.1, bt339.2.2.2.1, bt348.1, bt348.2.1, bt348.2.2.1, bt348.2.2.2.1, bt357.1, bt357.2.1, bt357.2.2.1, bt357.2.2.2.1)))))
theorem spec_DrawVers.calls (k : Nat) (A0 : Option Addr) (c0 : Nat) (l0 : List Int) (r1 : Int) (r2 : Int) (r3 : Int) (r4 : List ByteArray) (r5 : Int) (r6 : Int) (r7 : Int) (r8 : List ByteArray) (r9 : Int) (r10 : Int) (r11 : Int) (r12 : List ByteArray) (w : World) (hr0 : Kd.C (Kd.int .u8) w A0 l0.length l0) (hc0 : l0.length ≤ c0) (h : spec_DrawVers.f k l0 = some (r1, r2, r3, r4, r5, r6, r7, r8, r9, r10, r11, r12)) :
  Calls Tryd.prog 11 #[.slice A0 l0.length c0] w fun e w' => ∃ v3_ v7_ v11_ : Value, e = .returned (.tuple #[.agg #[.int .i64 r1, .int .i64 r2, .int .i64 r3, v3_], .agg #[.int .i64 r5, .int .i64 r6, .int .i64 r7, v7_], .agg #[.int .i64 r9, .int .i64 r10, .int .i64 r11, v11_]]) ∧ Kd.R Kd.string 9 w' w.heap.size (fun k_ => some k_ ≠ (v7_ : Value).ownBlock ∧ some k_ ≠ (v11_ : Value).ownBlock) v3_ r4 ∧ Kd.R Kd.string 9 w' w.heap.size (fun k_ => some k_ ≠ (v3_ : Value).ownBlock ∧ some k_ ≠ (v11_ : Value).ownBlock) v7_ r8 ∧ Kd.R Kd.string 9 w' w.heap.size (fun k_ => some k_ ≠ (v3_ : Value).ownBlock ∧ some k_ ≠ (v7_ : Value).ownBlock) v11_ r12 ∧ Below w.heap.size w w' := by
 have hu26 := Tryd.underlying26
 have HR0 := Aside0.mk hr0
 have HC0 := Aside0.mk hc0
 clear hr0 hc0
 have HB := zA (Below.refl w.heap.size w)
 have H : ((spec_l1New.f k l0).bind fun bt335 => ((spec_l3Draw.f k bt335.1 bt335.2.1 bt335.2.2).bind fun bt339 => ((spec_l3Draw.f k bt335.1 bt339.2.2.2.2.1 bt339.2.2.2.2.2).bind fun bt348 => ((spec_l3Draw.f k bt335.1 bt348.2.2.2.2.1 bt348.2.2.2.2.2).bind fun bt357 => (some (bt339.1, bt339.2.1, bt339.2.2.1, bt339.2.2.2.1, bt348.1, bt348.2.1, bt348.2.2.1, bt348.2.2.2.1, bt357.1, bt357.2.1, bt357.2.2.1, bt357.2.2.2.1)))))) = some (r1, r2, r3, r4, r5, r6, r7, r8, r9, r10, r11, r12) := h
 clear h
 replace H := Option.bind_eq_some_iff.mp H
 obtain ⟨⟨t335, t336, t337⟩, A20, H⟩ := H
 try dsimp only at H
 have A2 := Aside0.mk A20
 clear A20
 replace H := Option.bind_eq_some_iff.mp H
 obtain ⟨⟨t339, t340, t341, t342, t345, t346⟩, A30, H⟩ := H
 try dsimp only at H
 have A3 := Aside0.mk A30
 clear A30
 replace H := Option.bind_eq_some_iff.mp H
 obtain ⟨⟨t348, t349, t350, t351, t354, t355⟩, A40, H⟩ := H
 try dsimp only at H
 have A4 := Aside0.mk A40
 clear A40
 replace H := Option.bind_eq_some_iff.mp H
 obtain ⟨⟨t357, t358, t359, t360, t363, t364⟩, A50, H⟩ := H
 try dsimp only at H
 have A5 := Aside0.mk A50
 clear A50
 simp only [Option.some.injEq, Prod.mk.injEq] at H
 obtain ⟨rfl, rfl, rfl, rfl, rfl, rfl, rfl, rfl, rfl, rfl, rfl, rfl⟩ := H
 go_enter Tryd.func11, Tryd.ntmps11
 try go_wp2_with (first | ((with_reducible refine zd 2 ?_); refine ze 2 26 #[.int .i64 0, .int .i64 0, .int .i64 0, .slice none 0 0] ?_; intro gb332 hg w6 hbox hb; have BK332 := zA (hbox); have GW332 := zi HB hg; have GE332 := zi HB hg; replace HB := zA (below_step (zB) hb); clear hb hbox hg) | ((with_reducible refine zd 3 ?_); refine ze 3 26 #[.int .i64 0, .int .i64 0, .int .i64 0, .slice none 0 0] ?_; intro gb333 hg w7 hbox hb; have BK333 := zA (hbox); have GW333 := zi HB hg; have GE333 := zi HB hg; replace HB := zh HB hb; have NB332_333 := zA (zL hg (zK BK332.out)); have NB333_332 := zA (zJ hg (zK BK332.out)); replace BK332 := zb BK332 hb; clear hb hbox hg) | ((with_reducible refine zd 4 ?_); refine ze 4 26 #[.int .i64 0, .int .i64 0, .int .i64 0, .slice none 0 0] ?_; intro gb334 hg w8 hbox hb; have BK334 := zA (hbox); have GW334 := zi HB hg; have GE334 := zi HB hg; replace HB := zh HB hb; have NB332_334 := zA (zL hg (zK BK332.out)); have NB334_332 := zA (zJ hg (zK BK332.out)); replace BK332 := zb BK332 hb; have NB333_334 := zA (zL hg (zK BK333.out)); have NB334_333 := zA (zJ hg (zK BK333.out)); replace BK333 := zb BK333 hb; clear hb hbox hg) | ((with_reducible refine zq 26 ?_); refine zg (some 9) Tryd.func26 #[.slice A0 l0.length c0] ?_; (with_reducible refine (spec_l1New.calls k _ _ l0 t335 t336 t337 w _ ?side1 ?side2 ?side3 A2.out).mono ?_); (case side1 => repeat (first | (with_reducible first | exact HB.out | apply below_alloc | apply pw_below_drewN | apply below_drew1 | refine below_set ?_ GE332.out | refine below_set ?_ GE333.out | refine below_set ?_ GE334.out) | exact HB.out)); (case side2 => exact HR0.out); (case side3 => exact HC0.out); rintro e w9 ⟨g338, rfl, hi, hb, hb2⟩; refine ⟨_, rfl, ?_⟩; replace HB := zA (hb); have HI338 := zA (hi); have NB338_332 := zA (IsS68.ne_blk hi (blk_below (zK BK332.out) hb2) (by decide)); have NB332_338 := zA (Ne.symm (IsS68.ne_blk hi (blk_below (zK BK332.out) hb2) (by decide))); replace BK332 := zA (blk_below (zK BK332.out) hb2); have NB338_333 := zA (IsS68.ne_blk hi (blk_below (zK BK333.out) hb2) (by decide)); have NB333_338 := zA (Ne.symm (IsS68.ne_blk hi (blk_below (zK BK333.out) hb2) (by decide))); replace BK333 := zA (blk_below (zK BK333.out) hb2); have NB338_334 := zA (IsS68.ne_blk hi (blk_below (zK BK334.out) hb2) (by decide)); have NB334_338 := zA (Ne.symm (IsS68.ne_blk hi (blk_below (zK BK334.out) hb2) (by decide))); replace BK334 := zA (blk_below (zK BK334.out) hb2); (try clear hb hb2 hi)) | ((with_reducible refine zq 31 ?_); refine zg (some 11) Tryd.func31 #[.pointer (some ⟨g338, 0, none⟩)] ?_; (with_reducible refine (spec_l3Draw.calls k g338 t335 t336 t337 t339 t340 t341 t342 t345 t346 w _ ?side1 ?side2 A3.out).mono ?_); (case side1 => repeat (first | (with_reducible first | exact HI338.out | apply IsS68.alloc | apply IsS68.drewN | apply IsS68.drew | apply IsS68.set_1 | apply IsS68.set_2 | refine IsS68.far ?_ NB338_332.out _ | refine IsS68.far ?_ NB338_333.out _ | refine IsS68.far ?_ NB338_334.out _) | exact HI338.out)); (case side2 => repeat (first | (with_reducible first | exact HB.out | apply below_alloc | apply pw_below_drewN | apply below_drew1 | refine below_set ?_ (IsS68.ge HI338.out) | refine below_set ?_ GE332.out | refine below_set ?_ GE333.out | refine below_set ?_ GE334.out) | exact HB.out)); rintro e w10 ⟨v343, rfl, ho0, hi, hb, hk⟩; refine ⟨_, rfl, ?_⟩; replace BK332 := zA (KeepBut.blk hk (g' := gb332) (o := .cells #[.int .i64 0, .int .i64 0, .int .i64 0, .slice none 0 0] 26 (0, 0)) (zK BK332.out) NB332_338.out (by simp)); replace BK333 := zA (KeepBut.blk hk (g' := gb333) (o := .cells #[.int .i64 0, .int .i64 0, .int .i64 0, .slice none 0 0] 26 (0, 0)) (zK BK333.out) NB333_338.out (by simp)); replace BK334 := zA (KeepBut.blk hk (g' := gb334) (o := .cells #[.int .i64 0, .int .i64 0, .int .i64 0, .slice none 0 0] 26 (0, 0)) (zK BK334.out) NB334_338.out (by simp)); have HO344 := zA (Kd.R_lower ho0 (below_size (zX HB.out (IsS68.ge HI338.out)))); replace HB := zA (hb); replace HI338 := zA (hi); (try clear hb hk hi ho0)) | ((with_reducible refine zd 6 ?_); refine ze 6 26 #[.int .i64 0, .int .i64 0, .int .i64 0, .slice none 0 0] ?_; intro gb347 hg w11 hbox hb; replace HO344 := zr HO344 hb; have BK347 := zA (hbox); have GW347 := zA ((by rw [hg]; exact (below_size (zX HB.out (IsS68.ge HI338.out))) : w.heap.size ≤ gb347)); have GE347 := zA ((by rw [hg]; exact (below_size (zX HB.out (IsS68.ge HI338.out))) : w.heap.size ≤ gb347)); replace HB := zA (below_step (zX HB.out (IsS68.ge HI338.out)) hb); have NB332_347 := zA (zL hg (zK BK332.out)); have NB347_332 := zA (zJ hg (zK BK332.out)); replace BK332 := zb BK332 hb; have NB333_347 := zA (zL hg (zK BK333.out)); have NB347_333 := zA (zJ hg (zK BK333.out)); replace BK333 := zb BK333 hb; have NB334_347 := zA (zL hg (zK BK334.out)); have NB347_334 := zA (zJ hg (zK BK334.out)); replace BK334 := zb BK334 hb; have NB338_347 := zA ((by rw [hg]; exact Nat.ne_of_lt (IsS68.lt (show IsS68 w _ g338 t335 t345 t346 from by repeat (first | (with_reducible first | exact HI338.out | apply IsS68.alloc | apply IsS68.drewN | apply IsS68.drew | apply IsS68.set_1 | apply IsS68.set_2 | refine IsS68.far ?_ NB338_332.out _ | refine IsS68.far ?_ NB338_333.out _ | refine IsS68.far ?_ NB338_334.out _) | exact HI338.out))) : g338 ≠ gb347)); have NB347_338 := zA ((by rw [hg]; exact Nat.ne_of_gt (IsS68.lt (show IsS68 w _ g338 t335 t345 t346 from by repeat (first | (with_reducible first | exact HI338.out | apply IsS68.alloc | apply IsS68.drewN | apply IsS68.drew | apply IsS68.set_1 | apply IsS68.set_2 | refine IsS68.far ?_ NB338_332.out _ | refine IsS68.far ?_ NB338_333.out _ | refine IsS68.far ?_ NB338_334.out _) | exact HI338.out))) : gb347 ≠ g338)); replace HI338 := zA (IsS68.below (by repeat (first | (with_reducible first | exact HI338.out | apply IsS68.alloc | apply IsS68.drewN | apply IsS68.drew | apply IsS68.set_1 | apply IsS68.set_2 | refine IsS68.far ?_ NB338_332.out _ | refine IsS68.far ?_ NB338_333.out _ | refine IsS68.far ?_ NB338_334.out _) | exact HI338.out)) hb); clear hb hbox hg; have hnb12 := NB347_332.out; have hnc12 := NB332_347.out; have hnb13 := NB347_333.out; have hnc13 := NB333_347.out; have hnb14 := NB347_334.out; have hnc14 := NB334_347.out; have hnb15 := NB347_338.out; have hnc15 := NB338_347.out; obtain ⟨hcz16_0, hcz16_1, hcz16_2, hcz16_3, hfz16_0, hfz16_1, hfz16_2, hfz16_3⟩ := ze4 BK347.out; obtain ⟨Ao17, co17, eo17⟩ := Kd.R_slice HO344.out; subst eo17) | ((with_reducible refine zq 31 ?_); refine zg (some 13) Tryd.func31 #[.pointer (some ⟨g338, 0, none⟩)] ?_; (with_reducible refine (spec_l3Draw.calls k g338 t335 t345 t346 t348 t349 t350 t351 t354 t355 w _ ?side1 ?side2 A4.out).mono ?_); (case side1 => repeat (first | (with_reducible first | exact HI338.out | apply IsS68.alloc | apply IsS68.drewN | apply IsS68.drew | apply IsS68.set_1 | apply IsS68.set_2 | refine IsS68.far ?_ NB338_332.out _ | refine IsS68.far ?_ NB338_333.out _ | refine IsS68.far ?_ NB338_334.out _ | refine IsS68.far ?_ NB338_347.out _) | exact HI338.out)); (case side2 => repeat (first | (with_reducible first | exact HB.out | apply below_alloc | apply pw_below_drewN | apply below_drew1 | refine below_set ?_ (IsS68.ge HI338.out) | refine below_set ?_ GE332.out | refine below_set ?_ GE333.out | refine below_set ?_ GE334.out | refine below_set ?_ GE347.out) | exact HB.out)); rintro e w18 ⟨v352, rfl, ho0, hi, hb, hk⟩; refine ⟨_, rfl, ?_⟩; replace BK332 := zA (KeepBut.blk hk (g' := gb332) (o := .cells #[.int .i64 0, .int .i64 0, .int .i64 0, .slice none 0 0] 26 (0, 0)) (zK BK332.out) NB332_338.out (by simp)); replace BK333 := zA (KeepBut.blk hk (g' := gb333) (o := .cells #[.int .i64 0, .int .i64 0, .int .i64 0, .slice none 0 0] 26 (0, 0)) (zK BK333.out) NB333_338.out (by simp)); replace BK334 := zA (KeepBut.blk hk (g' := gb334) (o := .cells #[.int .i64 0, .int .i64 0, .int .i64 0, .slice none 0 0] 26 (0, 0)) (zK BK334.out) NB334_338.out (by simp)); have HO353 := zA (Kd.R_lower (Kd.R_new' ho0 (Kd.R_lt (zR (Kd.R_mono (Kd.R_far (p := ⟨gb347, 3, none⟩) (Kd.R_far (p := ⟨gb347, 2, none⟩) (Kd.R_far (p := ⟨gb347, 1, none⟩) (Kd.R_far (p := ⟨gb347, 0, none⟩) (Kd.R_types HO344.out BK347.out (by decide)) (fun _ hk => hk.2) (.int .i64 t339)) (fun _ hk => hk.2) (.int .i64 t340)) (fun _ hk => hk.2) (.int .i64 t341)) (fun _ hk => hk.2) (.slice Ao17 t342.length co17)) (fun _ h_ => h_.1))))) (below_size (zX HB.out (IsS68.ge HI338.out)))); replace HO344 := zA (Kd.R_mono (Kd.R_told (Kd.R_oldK (IsS68.apart (show IsS68 w _ g338 t335 t345 t346 from by repeat (first | (with_reducible first | exact HI338.out | apply IsS68.alloc | apply IsS68.drewN | apply IsS68.drew | apply IsS68.set_1 | apply IsS68.set_2 | refine IsS68.far ?_ NB338_332.out _ | refine IsS68.far ?_ NB338_333.out _ | refine IsS68.far ?_ NB338_334.out _ | refine IsS68.far ?_ NB338_347.out _) | exact HI338.out)) (zR (Kd.R_mono (Kd.R_far (p := ⟨gb347, 3, none⟩) (Kd.R_far (p := ⟨gb347, 2, none⟩) (Kd.R_far (p := ⟨gb347, 1, none⟩) (Kd.R_far (p := ⟨gb347, 0, none⟩) (Kd.R_types HO344.out BK347.out (by decide)) (fun _ hk => hk.2) (.int .i64 t339)) (fun _ hk => hk.2) (.int .i64 t340)) (fun _ hk => hk.2) (.int .i64 t341)) (fun _ hk => hk.2) (.slice Ao17 t342.length co17)) (fun _ h_ => h_.1))) (by decide)) hk) (Kd.R_base ho0)) (fun _ h_ => h_.1)); replace BK347 := zA (KeepBut.blk hk (g' := gb347) (o := .cells #[.int .i64 t339, .int .i64 t340, .int .i64 t341, .slice Ao17 t342.length co17] 26 (0, 0)) (by (with_reducible repeat (first | refine blk_drewN ?_ _ | refine blk_drew ?_ | refine blk_alloc ?_ _)); refine blk_put (cs := #[.int .i64 t339, .int .i64 t340, .int .i64 t341, .slice none 0 0]) ?_ 3 _ rfl; (with_reducible repeat (first | refine blk_drewN ?_ _ | refine blk_drew ?_ | refine blk_alloc ?_ _)); refine blk_put (cs := #[.int .i64 t339, .int .i64 t340, .int .i64 0, .slice none 0 0]) ?_ 2 _ rfl; (with_reducible repeat (first | refine blk_drewN ?_ _ | refine blk_drew ?_ | refine blk_alloc ?_ _)); refine blk_put (cs := #[.int .i64 t339, .int .i64 0, .int .i64 0, .slice none 0 0]) ?_ 1 _ rfl; (with_reducible repeat (first | refine blk_drewN ?_ _ | refine blk_drew ?_ | refine blk_alloc ?_ _)); refine blk_put (cs := #[.int .i64 0, .int .i64 0, .int .i64 0, .slice none 0 0]) ?_ 0 _ rfl; (with_reducible repeat (first | refine blk_drewN ?_ _ | refine blk_drew ?_ | refine blk_alloc ?_ _)); exact BK347.out) NB347_338.out (by simp)); replace HB := zA (hb); replace HI338 := zA (hi); (try clear hb hk hi ho0)) | ((with_reducible refine zd 7 ?_); refine ze 7 26 #[.int .i64 0, .int .i64 0, .int .i64 0, .slice none 0 0] ?_; intro gb356 hg w19 hbox hb; replace HO344 := zr HO344 hb; replace HO353 := zr HO353 hb; have BK356 := zA (hbox); have GW356 := zA ((by rw [hg]; exact (below_size (zX HB.out (IsS68.ge HI338.out))) : w.heap.size ≤ gb356)); have GE356 := zA ((by rw [hg]; exact (below_size (zX HB.out (IsS68.ge HI338.out))) : w.heap.size ≤ gb356)); replace HB := zA (below_step (zX HB.out (IsS68.ge HI338.out)) hb); have NB332_356 := zA (zL hg (zK BK332.out)); have NB356_332 := zA (zJ hg (zK BK332.out)); replace BK332 := zb BK332 hb; have NB333_356 := zA (zL hg (zK BK333.out)); have NB356_333 := zA (zJ hg (zK BK333.out)); replace BK333 := zb BK333 hb; have NB334_356 := zA (zL hg (zK BK334.out)); have NB356_334 := zA (zJ hg (zK BK334.out)); replace BK334 := zb BK334 hb; have NB347_356 := zA (zL hg (zK BK347.out)); have NB356_347 := zA (zJ hg (zK BK347.out)); replace BK347 := zb BK347 hb; have NB338_356 := zA ((by rw [hg]; exact Nat.ne_of_lt (IsS68.lt (show IsS68 w _ g338 t335 t354 t355 from by repeat (first | (with_reducible first | exact HI338.out | apply IsS68.alloc | apply IsS68.drewN | apply IsS68.drew | apply IsS68.set_1 | apply IsS68.set_2 | refine IsS68.far ?_ NB338_332.out _ | refine IsS68.far ?_ NB338_333.out _ | refine IsS68.far ?_ NB338_334.out _ | refine IsS68.far ?_ NB338_347.out _) | exact HI338.out))) : g338 ≠ gb356)); have NB356_338 := zA ((by rw [hg]; exact Nat.ne_of_gt (IsS68.lt (show IsS68 w _ g338 t335 t354 t355 from by repeat (first | (with_reducible first | exact HI338.out | apply IsS68.alloc | apply IsS68.drewN | apply IsS68.drew | apply IsS68.set_1 | apply IsS68.set_2 | refine IsS68.far ?_ NB338_332.out _ | refine IsS68.far ?_ NB338_333.out _ | refine IsS68.far ?_ NB338_334.out _ | refine IsS68.far ?_ NB338_347.out _) | exact HI338.out))) : gb356 ≠ g338)); replace HI338 := zA (IsS68.below (by repeat (first | (with_reducible first | exact HI338.out | apply IsS68.alloc | apply IsS68.drewN | apply IsS68.drew | apply IsS68.set_1 | apply IsS68.set_2 | refine IsS68.far ?_ NB338_332.out _ | refine IsS68.far ?_ NB338_333.out _ | refine IsS68.far ?_ NB338_334.out _ | refine IsS68.far ?_ NB338_347.out _) | exact HI338.out)) hb); clear hb hbox hg; have hnb20 := NB356_332.out; have hnc20 := NB332_356.out; have hnb21 := NB356_333.out; have hnc21 := NB333_356.out; have hnb22 := NB356_334.out; have hnc22 := NB334_356.out; have hnb23 := NB356_347.out; have hnc23 := NB347_356.out; have hnb24 := NB356_338.out; have hnc24 := NB338_356.out; obtain ⟨hcz25_0, hcz25_1, hcz25_2, hcz25_3, hfz25_0, hfz25_1, hfz25_2, hfz25_3⟩ := ze4 BK356.out; obtain ⟨Ao26, co26, eo26⟩ := Kd.R_slice HO353.out; subst eo26))
 have n0_ : Aside0 (Kd.R Kd.string 9 ((((w19.setCell ⟨gb356, 0, none⟩ (.int .i64 t348)).setCell ⟨gb356, 1, none⟩ (.int .i64 t349)).setCell ⟨gb356, 2, none⟩ (.int .i64 t350)).setCell ⟨gb356, 3, none⟩ (.slice Ao26 t351.length co26)) w.heap.size (fun k_ => some k_ ≠ (.slice Ao26 t351.length co26 : Value).ownBlock) (.slice Ao17 t342.length co17) t342) := ⟨by (with_reducible repeat (first | apply Kd.R_alloc | apply Kd.R_drewN | apply Kd.R_drew)); exact Kd.R_mono (Kd.R_far (p := ⟨gb356, 3, none⟩) (Kd.R_far (p := ⟨gb356, 2, none⟩) (Kd.R_far (p := ⟨gb356, 1, none⟩) (Kd.R_far (p := ⟨gb356, 0, none⟩) (Kd.R_types HO344.out BK356.out (by decide)) (fun _ hk => hk.2) (.int .i64 t348)) (fun _ hk => hk.2) (.int .i64 t349)) (fun _ hk => hk.2) (.int .i64 t350)) (fun _ hk => hk.2) (.slice Ao26 t351.length co26)) (fun _ hk => hk.1.2)⟩
 have n1_ : Aside0 (Kd.R Kd.string 9 ((((w19.setCell ⟨gb356, 0, none⟩ (.int .i64 t348)).setCell ⟨gb356, 1, none⟩ (.int .i64 t349)).setCell ⟨gb356, 2, none⟩ (.int .i64 t350)).setCell ⟨gb356, 3, none⟩ (.slice Ao26 t351.length co26)) w.heap.size (fun k_ => some k_ ≠ (.slice Ao17 t342.length co17 : Value).ownBlock) (.slice Ao26 t351.length co26) t351) := ⟨by (with_reducible repeat (first | apply Kd.R_alloc | apply Kd.R_drewN | apply Kd.R_drew)); exact Kd.R_mono (Kd.R_far (p := ⟨gb356, 3, none⟩) (Kd.R_far (p := ⟨gb356, 2, none⟩) (Kd.R_far (p := ⟨gb356, 1, none⟩) (Kd.R_far (p := ⟨gb356, 0, none⟩) (Kd.R_types HO353.out BK356.out (by decide)) (fun _ hk => hk.2) (.int .i64 t348)) (fun _ hk => hk.2) (.int .i64 t349)) (fun _ hk => hk.2) (.int .i64 t350)) (fun _ hk => hk.2) (.slice Ao26 t351.length co26)) (fun _ hk => hk.1.2)⟩
 have n2_ : Aside0 (((((w19.setCell ⟨gb356, 0, none⟩ (.int .i64 t348)).setCell ⟨gb356, 1, none⟩ (.int .i64 t349)).setCell ⟨gb356, 2, none⟩ (.int .i64 t350)).setCell ⟨gb356, 3, none⟩ (.slice Ao26 t351.length co26)).heap[gb332]? = some (.cells #[.int .i64 0, .int .i64 0, .int .i64 0, .slice none 0 0] 26 (0, 0))) := ⟨zK BK332.out⟩
 have n3_ : Aside0 (((((w19.setCell ⟨gb356, 0, none⟩ (.int .i64 t348)).setCell ⟨gb356, 1, none⟩ (.int .i64 t349)).setCell ⟨gb356, 2, none⟩ (.int .i64 t350)).setCell ⟨gb356, 3, none⟩ (.slice Ao26 t351.length co26)).heap[gb333]? = some (.cells #[.int .i64 0, .int .i64 0, .int .i64 0, .slice none 0 0] 26 (0, 0))) := ⟨zK BK333.out⟩
 have n4_ : Aside0 (((((w19.setCell ⟨gb356, 0, none⟩ (.int .i64 t348)).setCell ⟨gb356, 1, none⟩ (.int .i64 t349)).setCell ⟨gb356, 2, none⟩ (.int .i64 t350)).setCell ⟨gb356, 3, none⟩ (.slice Ao26 t351.length co26)).heap[gb334]? = some (.cells #[.int .i64 0, .int .i64 0, .int .i64 0, .slice none 0 0] 26 (0, 0))) := ⟨zK BK334.out⟩
 have n5_ : Aside0 (((((w19.setCell ⟨gb356, 0, none⟩ (.int .i64 t348)).setCell ⟨gb356, 1, none⟩ (.int .i64 t349)).setCell ⟨gb356, 2, none⟩ (.int .i64 t350)).setCell ⟨gb356, 3, none⟩ (.slice Ao26 t351.length co26)).heap[gb347]? = some (.cells #[.int .i64 t339, .int .i64 t340, .int .i64 t341, .slice Ao17 t342.length co17] 26 (0, 0))) := ⟨zK BK347.out⟩
 have n6_ : Aside0 (((((w19.setCell ⟨gb356, 0, none⟩ (.int .i64 t348)).setCell ⟨gb356, 1, none⟩ (.int .i64 t349)).setCell ⟨gb356, 2, none⟩ (.int .i64 t350)).setCell ⟨gb356, 3, none⟩ (.slice Ao26 t351.length co26)).heap[gb356]? = some (.cells #[.int .i64 t348, .int .i64 t349, .int .i64 t350, .slice Ao26 t351.length co26] 26 (0, 0))) := ⟨by (with_reducible repeat (first | refine blk_drewN ?_ _ | refine blk_drew ?_ | refine blk_alloc ?_ _)); refine blk_put (cs := #[.int .i64 t348, .int .i64 t349, .int .i64 t350, .slice none 0 0]) ?_ 3 _ rfl; (with_reducible repeat (first | refine blk_drewN ?_ _ | refine blk_drew ?_ | refine blk_alloc ?_ _)); refine blk_put (cs := #[.int .i64 t348, .int .i64 t349, .int .i64 0, .slice none 0 0]) ?_ 2 _ rfl; (with_reducible repeat (first | refine blk_drewN ?_ _ | refine blk_drew ?_ | refine blk_alloc ?_ _)); refine blk_put (cs := #[.int .i64 t348, .int .i64 0, .int .i64 0, .slice none 0 0]) ?_ 1 _ rfl; (with_reducible repeat (first | refine blk_drewN ?_ _ | refine blk_drew ?_ | refine blk_alloc ?_ _)); refine blk_put (cs := #[.int .i64 0, .int .i64 0, .int .i64 0, .slice none 0 0]) ?_ 0 _ rfl; (with_reducible repeat (first | refine blk_drewN ?_ _ | refine blk_drew ?_ | refine blk_alloc ?_ _)); exact BK356.out⟩
 have n7_ : Aside0 (IsS68 w ((((w19.setCell ⟨gb356, 0, none⟩ (.int .i64 t348)).setCell ⟨gb356, 1, none⟩ (.int .i64 t349)).setCell ⟨gb356, 2, none⟩ (.int .i64 t350)).setCell ⟨gb356, 3, none⟩ (.slice Ao26 t351.length co26)) g338 t335 t354 t355) := ⟨by repeat (first | (with_reducible first | exact HI338.out | apply IsS68.alloc | apply IsS68.drewN | apply IsS68.drew | apply IsS68.set_1 | apply IsS68.set_2 | refine IsS68.far ?_ NB338_332.out _ | refine IsS68.far ?_ NB338_333.out _ | refine IsS68.far ?_ NB338_334.out _ | refine IsS68.far ?_ NB338_347.out _ | refine IsS68.far ?_ NB338_356.out _) | exact HI338.out)⟩
 have n8_ : Aside0 (Below w.heap.size w ((((w19.setCell ⟨gb356, 0, none⟩ (.int .i64 t348)).setCell ⟨gb356, 1, none⟩ (.int .i64 t349)).setCell ⟨gb356, 2, none⟩ (.int .i64 t350)).setCell ⟨gb356, 3, none⟩ (.slice Ao26 t351.length co26))) := ⟨zX HB.out (IsS68.ge HI338.out)⟩
 (try clear HO344)
 (try clear HO353)
 (try clear BK332)
 (try clear BK333)
 (try clear BK334)
 (try clear BK347)
 (try clear BK356)
 (try clear HI338)
 (try clear HB)
 generalize ((((w19.setCell ⟨gb356, 0, none⟩ (.int .i64 t348)).setCell ⟨gb356, 1, none⟩ (.int .i64 t349)).setCell ⟨gb356, 2, none⟩ (.int .i64 t350)).setCell ⟨gb356, 3, none⟩ (.slice Ao26 t351.length co26)) = w27 at n0_ n1_ n2_ n3_ n4_ n5_ n6_ n7_ n8_ ⊢
 have HO344 := n0_
 have HO353 := n1_
 have BK332 := n2_
 have BK333 := n3_
 have BK334 := n4_
 have BK347 := n5_
 have BK356 := n6_
 have HI338 := n7_
 have HB := n8_
 clear n0_ n1_ n2_ n3_ n4_ n5_ n6_ n7_ n8_
 replace HO344 := zA (Kd.R_drew HO344.out)
 replace HO353 := zA (Kd.R_drew HO353.out)
 replace BK332 := zA (blk_drew BK332.out)
 replace BK333 := zA (blk_drew BK333.out)
 replace BK334 := zA (blk_drew BK334.out)
 replace BK347 := zA (blk_drew BK347.out)
 replace BK356 := zA (blk_drew BK356.out)
 replace HI338 := zA (IsS68.drew HI338.out)
 replace HB := zA (below_drew1 HB.out)
 refine start_ (n := 7) (S := fun w' => w'.cell? ⟨gb347, 0, none⟩ = some (.int .i64 t339) ∧ w'.cell? ⟨gb347, 1, none⟩ = some (.int .i64 t340) ∧ w'.cell? ⟨gb347, 2, none⟩ = some (.int .i64 t341) ∧ w'.cell? ⟨gb347, 3, none⟩ = some (.slice Ao17 t342.length co17) ∧ w'.cell? ⟨gb356, 0, none⟩ = some (.int .i64 t348) ∧ w'.cell? ⟨gb356, 1, none⟩ = some (.int .i64 t349) ∧ w'.cell? ⟨gb356, 2, none⟩ = some (.int .i64 t350) ∧ w'.cell? ⟨gb356, 3, none⟩ = some (.slice Ao26 t351.length co26)) (ds := []) (Array.replicate 7 false) (by kernel_rfl) rfl rfl ⟨(blk_cell BK347.out 0).trans rfl, (blk_cell BK347.out 1).trans rfl, (blk_cell BK347.out 2).trans rfl, (blk_cell BK347.out 3).trans rfl, (blk_cell BK356.out 0).trans rfl, (blk_cell BK356.out 1).trans rfl, (blk_cell BK356.out 2).trans rfl, (blk_cell BK356.out 3).trans rfl⟩ (fun hHeld => ?_)
 generalize w27.drew = w28 at HO344 HO353 BK332 BK333 BK334 BK347 BK356 HI338 HB hHeld ⊢
 refine zp 2 16 ?_
 refine zt 0 14 ?_
 refine zt 1 15 ?_
 refine zo 3 (some 17) fun K hK => ?_
 refine goes_ Tryd.func31 (by kernel_rfl) rfl #[.pointer (some ⟨g338, 0, none⟩)] (by rfl) rfl rfl zM ?_
 with_reducible refine (spec_l3Draw.calls k g338 t335 t354 t355 t357 t358 t359 t360 t363 t364 w _ ?side1 ?side2 A5.out).mono ?_
 (case side1 => repeat (first | (with_reducible first | exact HI338.out | apply IsS68.alloc | apply IsS68.drewN | apply IsS68.drew | apply IsS68.set_1 | apply IsS68.set_2 | refine IsS68.far ?_ NB338_332.out _ | refine IsS68.far ?_ NB338_333.out _ | refine IsS68.far ?_ NB338_334.out _ | refine IsS68.far ?_ NB338_347.out _ | refine IsS68.far ?_ NB338_356.out _) | exact HI338.out))
 (case side2 => repeat (first | (with_reducible first | exact HB.out | apply below_alloc | apply pw_below_drewN | apply below_drew1 | refine below_set ?_ (IsS68.ge HI338.out) | refine below_set ?_ GE332.out | refine below_set ?_ GE333.out | refine below_set ?_ GE334.out | refine below_set ?_ GE347.out | refine below_set ?_ GE356.out) | exact HB.out))
 rintro e w29 ⟨v361, rfl, ho0, hi, hb, hk⟩
 refine ⟨_, rfl, ?_⟩
 replace BK332 := zA (KeepBut.blk hk (g' := gb332) (o := .cells #[.int .i64 0, .int .i64 0, .int .i64 0, .slice none 0 0] 26 (0, 0)) (zK BK332.out) NB332_338.out (by simp))
 replace BK333 := zA (KeepBut.blk hk (g' := gb333) (o := .cells #[.int .i64 0, .int .i64 0, .int .i64 0, .slice none 0 0] 26 (0, 0)) (zK BK333.out) NB333_338.out (by simp))
 replace BK334 := zA (KeepBut.blk hk (g' := gb334) (o := .cells #[.int .i64 0, .int .i64 0, .int .i64 0, .slice none 0 0] 26 (0, 0)) (zK BK334.out) NB334_338.out (by simp))
 replace BK347 := zA (KeepBut.blk hk (g' := gb347) (o := .cells #[.int .i64 t339, .int .i64 t340, .int .i64 t341, .slice Ao17 t342.length co17] 26 (0, 0)) (zK BK347.out) NB347_338.out (by simp))
 replace BK356 := zA (KeepBut.blk hk (g' := gb356) (o := .cells #[.int .i64 t348, .int .i64 t349, .int .i64 t350, .slice Ao26 t351.length co26] 26 (0, 0)) (zK BK356.out) NB356_338.out (by simp))
 have HO362 := zA (Kd.R_lower (Kd.R_new' (Kd.R_new' ho0 (Kd.R_lt (zR HO344.out))) (Kd.R_lt (zR HO353.out))) (below_size (zX HB.out (IsS68.ge HI338.out))))
 replace HO344 := zA (Kd.R_mono (Kd.R_told (Kd.R_oldK (IsS68.apart (show IsS68 w _ g338 t335 t354 t355 from by repeat (first | (with_reducible first | exact HI338.out | apply IsS68.alloc | apply IsS68.drewN | apply IsS68.drew | apply IsS68.set_1 | apply IsS68.set_2 | refine IsS68.far ?_ NB338_332.out _ | refine IsS68.far ?_ NB338_333.out _ | refine IsS68.far ?_ NB338_334.out _ | refine IsS68.far ?_ NB338_347.out _ | refine IsS68.far ?_ NB338_356.out _) | exact HI338.out)) (zR HO344.out) (by decide)) hk) (Kd.R_base ho0)) (fun _ h_ => h_.1))
 replace HO353 := zA (Kd.R_mono (Kd.R_told (Kd.R_oldK (IsS68.apart (show IsS68 w _ g338 t335 t354 t355 from by repeat (first | (with_reducible first | exact HI338.out | apply IsS68.alloc | apply IsS68.drewN | apply IsS68.drew | apply IsS68.set_1 | apply IsS68.set_2 | refine IsS68.far ?_ NB338_332.out _ | refine IsS68.far ?_ NB338_333.out _ | refine IsS68.far ?_ NB338_334.out _ | refine IsS68.far ?_ NB338_347.out _ | refine IsS68.far ?_ NB338_356.out _) | exact HI338.out)) (zR HO353.out) (by decide)) hk) (Kd.R_base ho0)) (fun _ h_ => h_.1))
 replace HB := zA (hb)
 replace HI338 := zA (hi)
 (try clear hb hk hi ho0)
 obtain ⟨Ao41, co41, eo41⟩ := Kd.R_slice HO362.out
 (first | subst eo41 | (injection eo41 with f1_ f2_ f3_; have f4_ := f1_.symm; have f5_ := f3_.symm; clear f1_ f2_ f3_; subst f4_; subst f5_))
 refine hK.out _ _ ⟨(blk_cell BK347.out 0).trans rfl, (blk_cell BK347.out 1).trans rfl, (blk_cell BK347.out 2).trans rfl, (blk_cell BK347.out 3).trans rfl, (blk_cell BK356.out 0).trans rfl, (blk_cell BK356.out 1).trans rfl, (blk_cell BK356.out 2).trans rfl, (blk_cell BK356.out 3).trans rfl⟩ (fun hHeld => ?_)
 clear hK K
 refine zn ?_
 refine zo 4 none fun K hK => ?_
 have hs30 : w29.cell? ⟨gb332, 0, none⟩ = some (.int .i64 0) := (blk_cell BK332.out 0).trans rfl
 have hfs30 := zF BK332.out 0
 have hns30_1 := NB333_332.out
 have hns30_2 := NB334_332.out
 have hns30_3 := NB347_332.out
 have hns30_4 := NB356_332.out
 have hms30_1 := NB332_333.out
 have hms30_2 := NB332_334.out
 have hms30_3 := NB332_347.out
 have hms30_4 := NB332_356.out
 have hs31 : w29.cell? ⟨gb332, 1, none⟩ = some (.int .i64 0) := (blk_cell BK332.out 1).trans rfl
 have hfs31 := zF BK332.out 1
 have hns31_1 := NB333_332.out
 have hns31_2 := NB334_332.out
 have hns31_3 := NB347_332.out
 have hns31_4 := NB356_332.out
 have hms31_1 := NB332_333.out
 have hms31_2 := NB332_334.out
 have hms31_3 := NB332_347.out
 have hms31_4 := NB332_356.out
 have hs32 : w29.cell? ⟨gb332, 2, none⟩ = some (.int .i64 0) := (blk_cell BK332.out 2).trans rfl
 have hfs32 := zF BK332.out 2
 have hns32_1 := NB333_332.out
 have hns32_2 := NB334_332.out
 have hns32_3 := NB347_332.out
 have hns32_4 := NB356_332.out
 have hms32_1 := NB332_333.out
 have hms32_2 := NB332_334.out
 have hms32_3 := NB332_347.out
 have hms32_4 := NB332_356.out
 have hs33 : w29.cell? ⟨gb332, 3, none⟩ = some (.slice none 0 0) := (blk_cell BK332.out 3).trans rfl
 have hfs33 := zF BK332.out 3
 have hns33_1 := NB333_332.out
 have hns33_2 := NB334_332.out
 have hns33_3 := NB347_332.out
 have hns33_4 := NB356_332.out
 have hms33_1 := NB332_333.out
 have hms33_2 := NB332_334.out
 have hms33_3 := NB332_347.out
 have hms33_4 := NB332_356.out
 refine skip_ (w1 := ?_) (by rfl) rfl ?_ ?_
 rotate_left
 ·go_simp
  rfl
 refine hK.out _ _ ⟨((cell_far (p := ⟨gb332, _, none⟩) NB347_332.out _).trans (((cell_far (p := ⟨gb332, _, none⟩) NB347_332.out _).trans (((cell_far (p := ⟨gb332, _, none⟩) NB347_332.out _).trans (((cell_far (p := ⟨gb332, _, none⟩) NB347_332.out _).trans (hHeld.1)))))))), ((cell_far (p := ⟨gb332, _, none⟩) NB347_332.out _).trans (((cell_far (p := ⟨gb332, _, none⟩) NB347_332.out _).trans (((cell_far (p := ⟨gb332, _, none⟩) NB347_332.out _).trans (((cell_far (p := ⟨gb332, _, none⟩) NB347_332.out _).trans (hHeld.2.1)))))))), ((cell_far (p := ⟨gb332, _, none⟩) NB347_332.out _).trans (((cell_far (p := ⟨gb332, _, none⟩) NB347_332.out _).trans (((cell_far (p := ⟨gb332, _, none⟩) NB347_332.out _).trans (((cell_far (p := ⟨gb332, _, none⟩) NB347_332.out _).trans (hHeld.2.2.1)))))))), ((cell_far (p := ⟨gb332, _, none⟩) NB347_332.out _).trans (((cell_far (p := ⟨gb332, _, none⟩) NB347_332.out _).trans (((cell_far (p := ⟨gb332, _, none⟩) NB347_332.out _).trans (((cell_far (p := ⟨gb332, _, none⟩) NB347_332.out _).trans (hHeld.2.2.2.1)))))))), ((cell_far (p := ⟨gb332, _, none⟩) NB356_332.out _).trans (((cell_far (p := ⟨gb332, _, none⟩) NB356_332.out _).trans (((cell_far (p := ⟨gb332, _, none⟩) NB356_332.out _).trans (((cell_far (p := ⟨gb332, _, none⟩) NB356_332.out _).trans (hHeld.2.2.2.2.1)))))))), ((cell_far (p := ⟨gb332, _, none⟩) NB356_332.out _).trans (((cell_far (p := ⟨gb332, _, none⟩) NB356_332.out _).trans (((cell_far (p := ⟨gb332, _, none⟩) NB356_332.out _).trans (((cell_far (p := ⟨gb332, _, none⟩) NB356_332.out _).trans (hHeld.2.2.2.2.2.1)))))))), ((cell_far (p := ⟨gb332, _, none⟩) NB356_332.out _).trans (((cell_far (p := ⟨gb332, _, none⟩) NB356_332.out _).trans (((cell_far (p := ⟨gb332, _, none⟩) NB356_332.out _).trans (((cell_far (p := ⟨gb332, _, none⟩) NB356_332.out _).trans (hHeld.2.2.2.2.2.2.1)))))))), ((cell_far (p := ⟨gb332, _, none⟩) NB356_332.out _).trans (((cell_far (p := ⟨gb332, _, none⟩) NB356_332.out _).trans (((cell_far (p := ⟨gb332, _, none⟩) NB356_332.out _).trans (((cell_far (p := ⟨gb332, _, none⟩) NB356_332.out _).trans (hHeld.2.2.2.2.2.2.2))))))))⟩ (fun hHeld => ?_)
 clear hK K
 generalize hW_ : ((((w29.setCell ⟨gb332, 0, none⟩ (.int .i64 t339)).setCell ⟨gb332, 1, none⟩ (.int .i64 t340)).setCell ⟨gb332, 2, none⟩ (.int .i64 t341)).setCell ⟨gb332, 3, none⟩ (.slice Ao17 t342.length co17)) = w971 at hHeld ⊢
 replace HO344 := Mine.row4 HO344 BK332 hW_
 replace HO353 := Mine.row4 HO353 BK332 hW_
 replace HO362 := Mine.row4 HO362 BK332 hW_
 replace HB := Mine.below4 HB GE332 hW_
 replace BK333 := Mine.far4 BK333 NB333_332 hW_
 replace BK334 := Mine.far4 BK334 NB334_332 hW_
 replace BK347 := Mine.far4 BK347 NB347_332 hW_
 replace BK356 := Mine.far4 BK356 NB356_332 hW_
 replace BK332 := Mine.put4 BK332 hW_
 clear hW_
 skip
 refine zo 5 none fun K hK => ?_
 have hs34 : w971.cell? ⟨gb333, 0, none⟩ = some (.int .i64 0) := (blk_cell BK333.out 0).trans rfl
 have hfs34 := zF BK333.out 0
 have hns34_0 := NB332_333.out
 have hns34_2 := NB334_333.out
 have hns34_3 := NB347_333.out
 have hns34_4 := NB356_333.out
 have hms34_0 := NB333_332.out
 have hms34_2 := NB333_334.out
 have hms34_3 := NB333_347.out
 have hms34_4 := NB333_356.out
 have hs35 : w971.cell? ⟨gb333, 1, none⟩ = some (.int .i64 0) := (blk_cell BK333.out 1).trans rfl
 have hfs35 := zF BK333.out 1
 have hns35_0 := NB332_333.out
 have hns35_2 := NB334_333.out
 have hns35_3 := NB347_333.out
 have hns35_4 := NB356_333.out
 have hms35_0 := NB333_332.out
 have hms35_2 := NB333_334.out
 have hms35_3 := NB333_347.out
 have hms35_4 := NB333_356.out
 have hs36 : w971.cell? ⟨gb333, 2, none⟩ = some (.int .i64 0) := (blk_cell BK333.out 2).trans rfl
 have hfs36 := zF BK333.out 2
 have hns36_0 := NB332_333.out
 have hns36_2 := NB334_333.out
 have hns36_3 := NB347_333.out
 have hns36_4 := NB356_333.out
 have hms36_0 := NB333_332.out
 have hms36_2 := NB333_334.out
 have hms36_3 := NB333_347.out
 have hms36_4 := NB333_356.out
 have hs37 : w971.cell? ⟨gb333, 3, none⟩ = some (.slice none 0 0) := (blk_cell BK333.out 3).trans rfl
 have hfs37 := zF BK333.out 3
 have hns37_0 := NB332_333.out
 have hns37_2 := NB334_333.out
 have hns37_3 := NB347_333.out
 have hns37_4 := NB356_333.out
 have hms37_0 := NB333_332.out
 have hms37_2 := NB333_334.out
 have hms37_3 := NB333_347.out
 have hms37_4 := NB333_356.out
 refine skip_ (w1 := ?_) (by rfl) rfl ?_ ?_
 rotate_left
 ·go_simp
  rfl
 refine hK.out _ _ ⟨((cell_far (p := ⟨gb333, _, none⟩) NB347_333.out _).trans (((cell_far (p := ⟨gb333, _, none⟩) NB347_333.out _).trans (((cell_far (p := ⟨gb333, _, none⟩) NB347_333.out _).trans (((cell_far (p := ⟨gb333, _, none⟩) NB347_333.out _).trans (hHeld.1)))))))), ((cell_far (p := ⟨gb333, _, none⟩) NB347_333.out _).trans (((cell_far (p := ⟨gb333, _, none⟩) NB347_333.out _).trans (((cell_far (p := ⟨gb333, _, none⟩) NB347_333.out _).trans (((cell_far (p := ⟨gb333, _, none⟩) NB347_333.out _).trans (hHeld.2.1)))))))), ((cell_far (p := ⟨gb333, _, none⟩) NB347_333.out _).trans (((cell_far (p := ⟨gb333, _, none⟩) NB347_333.out _).trans (((cell_far (p := ⟨gb333, _, none⟩) NB347_333.out _).trans (((cell_far (p := ⟨gb333, _, none⟩) NB347_333.out _).trans (hHeld.2.2.1)))))))), ((cell_far (p := ⟨gb333, _, none⟩) NB347_333.out _).trans (((cell_far (p := ⟨gb333, _, none⟩) NB347_333.out _).trans (((cell_far (p := ⟨gb333, _, none⟩) NB347_333.out _).trans (((cell_far (p := ⟨gb333, _, none⟩) NB347_333.out _).trans (hHeld.2.2.2.1)))))))), ((cell_far (p := ⟨gb333, _, none⟩) NB356_333.out _).trans (((cell_far (p := ⟨gb333, _, none⟩) NB356_333.out _).trans (((cell_far (p := ⟨gb333, _, none⟩) NB356_333.out _).trans (((cell_far (p := ⟨gb333, _, none⟩) NB356_333.out _).trans (hHeld.2.2.2.2.1)))))))), ((cell_far (p := ⟨gb333, _, none⟩) NB356_333.out _).trans (((cell_far (p := ⟨gb333, _, none⟩) NB356_333.out _).trans (((cell_far (p := ⟨gb333, _, none⟩) NB356_333.out _).trans (((cell_far (p := ⟨gb333, _, none⟩) NB356_333.out _).trans (hHeld.2.2.2.2.2.1)))))))), ((cell_far (p := ⟨gb333, _, none⟩) NB356_333.out _).trans (((cell_far (p := ⟨gb333, _, none⟩) NB356_333.out _).trans (((cell_far (p := ⟨gb333, _, none⟩) NB356_333.out _).trans (((cell_far (p := ⟨gb333, _, none⟩) NB356_333.out _).trans (hHeld.2.2.2.2.2.2.1)))))))), ((cell_far (p := ⟨gb333, _, none⟩) NB356_333.out _).trans (((cell_far (p := ⟨gb333, _, none⟩) NB356_333.out _).trans (((cell_far (p := ⟨gb333, _, none⟩) NB356_333.out _).trans (((cell_far (p := ⟨gb333, _, none⟩) NB356_333.out _).trans (hHeld.2.2.2.2.2.2.2))))))))⟩ (fun hHeld => ?_)
 clear hK K
 generalize hW_ : ((((w971.setCell ⟨gb333, 0, none⟩ (.int .i64 t348)).setCell ⟨gb333, 1, none⟩ (.int .i64 t349)).setCell ⟨gb333, 2, none⟩ (.int .i64 t350)).setCell ⟨gb333, 3, none⟩ (.slice Ao26 t351.length co26)) = w972 at hHeld ⊢
 replace HO344 := Mine.row4 HO344 BK333 hW_
 replace HO353 := Mine.row4 HO353 BK333 hW_
 replace HO362 := Mine.row4 HO362 BK333 hW_
 replace HB := Mine.below4 HB GE333 hW_
 replace BK332 := Mine.far4 BK332 NB332_333 hW_
 replace BK334 := Mine.far4 BK334 NB334_333 hW_
 replace BK347 := Mine.far4 BK347 NB347_333 hW_
 replace BK356 := Mine.far4 BK356 NB356_333 hW_
 replace BK333 := Mine.put4 BK333 hW_
 clear hW_
 skip
 refine zo 6 none fun K hK => ?_
 have hs38 : w972.cell? ⟨gb334, 0, none⟩ = some (.int .i64 0) := (blk_cell BK334.out 0).trans rfl
 have hfs38 := zF BK334.out 0
 have hns38_0 := NB332_334.out
 have hns38_1 := NB333_334.out
 have hns38_3 := NB347_334.out
 have hns38_4 := NB356_334.out
 have hms38_0 := NB334_332.out
 have hms38_1 := NB334_333.out
 have hms38_3 := NB334_347.out
 have hms38_4 := NB334_356.out
 have hs39 : w972.cell? ⟨gb334, 1, none⟩ = some (.int .i64 0) := (blk_cell BK334.out 1).trans rfl
 have hfs39 := zF BK334.out 1
 have hns39_0 := NB332_334.out
 have hns39_1 := NB333_334.out
 have hns39_3 := NB347_334.out
 have hns39_4 := NB356_334.out
 have hms39_0 := NB334_332.out
 have hms39_1 := NB334_333.out
 have hms39_3 := NB334_347.out
 have hms39_4 := NB334_356.out
 have hs40 : w972.cell? ⟨gb334, 2, none⟩ = some (.int .i64 0) := (blk_cell BK334.out 2).trans rfl
 have hfs40 := zF BK334.out 2
 have hns40_0 := NB332_334.out
 have hns40_1 := NB333_334.out
 have hns40_3 := NB347_334.out
 have hns40_4 := NB356_334.out
 have hms40_0 := NB334_332.out
 have hms40_1 := NB334_333.out
 have hms40_3 := NB334_347.out
 have hms40_4 := NB334_356.out
 have hs42 : w972.cell? ⟨gb334, 3, none⟩ = some (.slice none 0 0) := (blk_cell BK334.out 3).trans rfl
 have hfs42 := zF BK334.out 3
 have hns42_0 := NB332_334.out
 have hns42_1 := NB333_334.out
 have hns42_3 := NB347_334.out
 have hns42_4 := NB356_334.out
 have hms42_0 := NB334_332.out
 have hms42_1 := NB334_333.out
 have hms42_3 := NB334_347.out
 have hms42_4 := NB334_356.out
 refine skip_ (w1 := ?_) (by rfl) rfl ?_ ?_
 rotate_left
 ·go_simp
  rfl
 refine hK.out _ _ ⟨((cell_far (p := ⟨gb334, _, none⟩) NB347_334.out _).trans (((cell_far (p := ⟨gb334, _, none⟩) NB347_334.out _).trans (((cell_far (p := ⟨gb334, _, none⟩) NB347_334.out _).trans (((cell_far (p := ⟨gb334, _, none⟩) NB347_334.out _).trans (hHeld.1)))))))), ((cell_far (p := ⟨gb334, _, none⟩) NB347_334.out _).trans (((cell_far (p := ⟨gb334, _, none⟩) NB347_334.out _).trans (((cell_far (p := ⟨gb334, _, none⟩) NB347_334.out _).trans (((cell_far (p := ⟨gb334, _, none⟩) NB347_334.out _).trans (hHeld.2.1)))))))), ((cell_far (p := ⟨gb334, _, none⟩) NB347_334.out _).trans (((cell_far (p := ⟨gb334, _, none⟩) NB347_334.out _).trans (((cell_far (p := ⟨gb334, _, none⟩) NB347_334.out _).trans (((cell_far (p := ⟨gb334, _, none⟩) NB347_334.out _).trans (hHeld.2.2.1)))))))), ((cell_far (p := ⟨gb334, _, none⟩) NB347_334.out _).trans (((cell_far (p := ⟨gb334, _, none⟩) NB347_334.out _).trans (((cell_far (p := ⟨gb334, _, none⟩) NB347_334.out _).trans (((cell_far (p := ⟨gb334, _, none⟩) NB347_334.out _).trans (hHeld.2.2.2.1)))))))), ((cell_far (p := ⟨gb334, _, none⟩) NB356_334.out _).trans (((cell_far (p := ⟨gb334, _, none⟩) NB356_334.out _).trans (((cell_far (p := ⟨gb334, _, none⟩) NB356_334.out _).trans (((cell_far (p := ⟨gb334, _, none⟩) NB356_334.out _).trans (hHeld.2.2.2.2.1)))))))), ((cell_far (p := ⟨gb334, _, none⟩) NB356_334.out _).trans (((cell_far (p := ⟨gb334, _, none⟩) NB356_334.out _).trans (((cell_far (p := ⟨gb334, _, none⟩) NB356_334.out _).trans (((cell_far (p := ⟨gb334, _, none⟩) NB356_334.out _).trans (hHeld.2.2.2.2.2.1)))))))), ((cell_far (p := ⟨gb334, _, none⟩) NB356_334.out _).trans (((cell_far (p := ⟨gb334, _, none⟩) NB356_334.out _).trans (((cell_far (p := ⟨gb334, _, none⟩) NB356_334.out _).trans (((cell_far (p := ⟨gb334, _, none⟩) NB356_334.out _).trans (hHeld.2.2.2.2.2.2.1)))))))), ((cell_far (p := ⟨gb334, _, none⟩) NB356_334.out _).trans (((cell_far (p := ⟨gb334, _, none⟩) NB356_334.out _).trans (((cell_far (p := ⟨gb334, _, none⟩) NB356_334.out _).trans (((cell_far (p := ⟨gb334, _, none⟩) NB356_334.out _).trans (hHeld.2.2.2.2.2.2.2))))))))⟩ (fun hHeld => ?_)
 clear hK K
 generalize hW_ : ((((w972.setCell ⟨gb334, 0, none⟩ (.int .i64 t357)).setCell ⟨gb334, 1, none⟩ (.int .i64 t358)).setCell ⟨gb334, 2, none⟩ (.int .i64 t359)).setCell ⟨gb334, 3, none⟩ (.slice Ao41 t360.length co41)) = w973 at hHeld ⊢
 replace HO344 := Mine.row4 HO344 BK334 hW_
 replace HO353 := Mine.row4 HO353 BK334 hW_
 replace HO362 := Mine.row4 HO362 BK334 hW_
 replace HB := Mine.below4 HB GE334 hW_
 replace BK332 := Mine.far4 BK332 NB332_334 hW_
 replace BK333 := Mine.far4 BK333 NB333_334 hW_
 replace BK347 := Mine.far4 BK347 NB347_334 hW_
 replace BK356 := Mine.far4 BK356 NB356_334 hW_
 replace BK334 := Mine.put4 BK334 hW_
 clear hW_
 skip
 refine done_ (by kernel_rfl) ?_
 try go_wp2
 refine bodyPost_ret (results_list (rs := [.cell 2 26, .cell 3 26, .cell 4 26]) rfl (by simp) (.cell gb332 26 #[.int .i64 t339, .int .i64 t340, .int .i64 t341, .slice Ao17 t342.length co17] (0, 0) _ rfl BK332.out Tryd.underlying26 rfl (by kernel_rfl) (.cell gb333 26 #[.int .i64 t348, .int .i64 t349, .int .i64 t350, .slice Ao26 t351.length co26] (0, 0) _ rfl BK333.out Tryd.underlying26 rfl (by kernel_rfl) (.cell gb334 26 #[.int .i64 t357, .int .i64 t358, .int .i64 t359, .slice Ao41 t360.length co41] (0, 0) _ rfl BK334.out Tryd.underlying26 rfl (by kernel_rfl) .nil)))) rfl ?_
 exact ⟨_, _, _, rfl, Kd.R_mono HO344.out (fun _ hk => ⟨hk.1, hk.2⟩), Kd.R_mono HO353.out (fun _ hk => ⟨hk.1, hk.2⟩), Kd.R_mono HO362.out (fun _ hk => ⟨hk.1.2, hk.2⟩), HB.out⟩
/-! ### cmp_Or_int: function 68 -/
def cmp_Or_int.l0 : Nat → Int → List Int → Int → Int → Option (Int)
 | 0, _, _, _, _ => none
 | k + 1, x3, x6, x7, x8 => if x8 < x7 then (if 0 ≤ x8 then (if x8 < (x6.length : Int) then (if (rd x6 x8) = x3 then (cmp_Or_int.l0 k x3 x6 x7 (wrap64 (x8 + 1))) else (some (rd x6 x8))) else (none)) else (none)) else (some x3)
def cmp_Or_int.f (k : Nat) (l0 : List Int) : Option (Int) := cmp_Or_int.l0 k 0 l0 (l0.length : Int) 0
theorem cmp_Or_int.calls (k : Nat) (A0 : Option Addr) (c0 : Nat) (l0 : List Int) (r : Int) (w : World) (hr0 : Kd.C (Kd.int .i64) w A0 l0.length l0) (hc0 : l0.length ≤ c0) (h : cmp_Or_int.f k l0 = some r) :
  Calls Tryd.prog 68 #[.slice A0 l0.length c0] w fun e w' => e = .returned (.int .i64 r) ∧ Drawn0 w w' := by
 have HR0 := Aside0.mk hr0
 have HC0 := Aside0.mk hc0
 clear hr0 hc0
 have H : (cmp_Or_int.l0 k 0 l0 (l0.length : Int) 0) = some r := h
 clear h
 have H' := Aside0.mk H
 clear H
 go_enter Tryd.func68, Tryd.ntmps68
 go_wp2
 go_loopg [8] k (fun kq v8 w' => ∃ (x8_1 : Int), v8 = .int .i64 x8_1 ∧ Aside0 (cmp_Or_int.l0 kq 0 l0 (l0.length : Int) x8_1 = some r) ∧ Aside0 (kq ≤ k) ∧ Drawn0 w w')
 case atStart => exact ⟨(0), zS, H', ⟨Nat.le_refl _⟩, by repeat (first | exact Drawn0.refl _ | apply Drawn0.step)⟩
 case round =>
  clear H'
  obtain ⟨x8_1, rfl, HA, HK1, ⟨m1, rfl⟩⟩ := hrel
  cases gk with
  | zero => exact absurd HA.out (by simp [cmp_Or_int.l0])
  | succ k1 =>
   have H := HA.out
   clear HA
   simp only [cmp_Or_int.l0] at H
   by_cases c2 : x8_1 < (l0.length : Int)
   ·rw [if_pos c2] at H
    have c2b0 := decide_eq_true c2
    clear c2
    by_cases c3 : 0 ≤ x8_1
    ·rw [if_pos c3] at H
     have c3b0 := decide_eq_true c3
     clear c3
     by_cases c4 : x8_1 < (l0.length : Int)
     ·rw [if_pos c4] at H
      have c4b0 := decide_eq_true c4
      clear c4
      by_cases c5 : (rd l0 x8_1) = 0
      ·rw [if_pos c5] at H
       have c5b0 : ((rd l0 x8_1) == 0) = true := beq_iff_eq.mpr c5
       have c5b1 : ((rd l0 x8_1) != 0) = false := bne_eq_false_iff_eq.mpr c5
       clear c5
       have H' := Aside0.mk H
       clear H
       have p365 : 0 ≤ (x8_1 : Int) := zD
       have q365 : x8_1 < (l0.length : Int) := zD
       obtain ⟨ad365, e365, hx365_0⟩ := Kd.at_int HR0.out x8_1 p365 q365
       cases e365
       replace p365 := eq_true p365
       replace q365 := eq_true q365
       go_wp2
       go_roundg k1
       case measure => have := HK1.out; omega
       case rel => exact ⟨(wrap64 (x8_1 + 1)), zS, H', ⟨by have := HK1.out; omega⟩, by repeat (first | exact Drawn0.refl _ | apply Drawn0.step)⟩
      ·rw [if_neg c5] at H
       have c5b0 : ((rd l0 x8_1) == 0) = false := beq_eq_false_iff_ne.mpr c5
       have c5b1 : ((rd l0 x8_1) != 0) = true := bne_iff_ne.mpr c5
       obtain rfl := Option.some.inj H
       have p365 : 0 ≤ (x8_1 : Int) := zD
       have q365 : x8_1 < (l0.length : Int) := zD
       obtain ⟨ad365, e365, hx365_0⟩ := Kd.at_int HR0.out x8_1 p365 q365
       cases e365
       replace p365 := eq_true p365
       replace q365 := eq_true q365
       go_wp2
       go_ret
       exact ⟨by first | rfl | (simp; done) | (simp [*]; done) | (simp; rw [Bool.eq_iff_iff]; simp; done), by repeat (first | exact Drawn0.refl _ | apply Drawn0.step)⟩
     ·rw [if_neg c4] at H
      exact absurd H (by simp)
    ·rw [if_neg c3] at H
     exact absurd H (by simp)
   ·rw [if_neg c2] at H
    have c2b0 := decide_eq_false c2
    clear c2
    obtain rfl := Option.some.inj H
    go_wp2
    go_ret
    exact ⟨by first | rfl | (simp; done) | (simp [*]; done) | (simp; rw [Bool.eq_iff_iff]; simp; done), by repeat (first | exact Drawn0.refl _ | apply Drawn0.step)⟩
/-! ### cmp_isNaN_int: function 91 -/
def cmp_isNaN_int.f (a0 : Int) : Option (Bool) := some (a0 != a0)
theorem cmp_isNaN_int.calls (a0 : Int) (r : Bool) (w : World) (h : cmp_isNaN_int.f a0 = some r) :
  Calls Tryd.prog 91 #[.int .i64 a0] w fun e w' => e = .returned (.bool r) ∧ Drawn0 w w' := by
 have H : (some (a0 != a0)) = some r := h
 clear h
 obtain rfl := Option.some.inj H
 go_enter Tryd.func91, Tryd.ntmps91
 go_wp2
 go_ret
 exact ⟨by first | rfl | (simp; done) | (simp [*]; done) | (simp; rw [Bool.eq_iff_iff]; simp; done), by repeat (first | exact Drawn0.refl _ | apply Drawn0.step)⟩
/-! ### cmp_Compare_int: function 69 -/
mutual
def cmp_Compare_int.j0 : Nat → Int → Int → Bool → Option (Int)
 | 0, _, _, _ => none
 | k + 1, x0, x1, x6 => if x6 = true then (some 1) else (cmp_Compare_int.j1 k x0 x1)
def cmp_Compare_int.j1 : Nat → Int → Int → Option (Int)
 | 0, _, _ => none
 | k + 1, x0, x1 => if x0 < x1 then (some (-1)) else (if x0 > x1 then (some 1) else (some 0))
end
def cmp_Compare_int.f (k : Nat) (a0 : Int) (a1 : Int) : Option (Int) := (cmp_isNaN_int.f a0).bind fun t366 => ((cmp_isNaN_int.f a1).bind fun t367 => (if t366 = true then (if t367 = true then (some 0) else (some (-1))) else (cmp_Compare_int.j0 k a0 a1 t367)))
theorem cmp_Compare_int.calls (k : Nat) (a0 : Int) (a1 : Int) (r : Int) (w : World) (h : cmp_Compare_int.f k a0 a1 = some r) :
  Calls Tryd.prog 69 #[.int .i64 a0, .int .i64 a1] w fun e w' => e = .returned (.int .i64 r) ∧ Drawn0 w w' := by
 have H : ((cmp_isNaN_int.f a0).bind fun t366 => ((cmp_isNaN_int.f a1).bind fun t367 => (if t366 = true then (if t367 = true then (some 0) else (some (-1))) else (cmp_Compare_int.j0 k a0 a1 t367)))) = some r := h
 clear h
 replace H := Option.bind_eq_some_iff.mp H
 obtain ⟨t366, A30, H⟩ := H
 try dsimp only at H
 have A3 := Aside0.mk A30
 clear A30
 replace H := Option.bind_eq_some_iff.mp H
 obtain ⟨t367, A40, H⟩ := H
 try dsimp only at H
 have A4 := Aside0.mk A40
 clear A40
 have HC5 := Aside0.mk H
 clear H
 go_enter Tryd.func69, Tryd.ntmps69
 go_upto_if 11 with (first | ((with_reducible refine zq 91 ?_); refine zg (some 8) Tryd.func91 #[.int .i64 a0] ?_; (with_reducible refine (cmp_isNaN_int.calls a0 t366 _ A3.out).mono ?_); rintro e w' ⟨rfl, ⟨nd, rfl⟩⟩; refine ⟨_, rfl, ?_⟩) | ((with_reducible refine zq 91 ?_); refine zg (some 10) Tryd.func91 #[.int .i64 a1] ?_; (with_reducible refine (cmp_isNaN_int.calls a1 t367 _ A4.out).mono ?_); rintro e w' ⟨rfl, ⟨nd, rfl⟩⟩; refine ⟨_, rfl, ?_⟩))
 (try simp only [Act.put, zT])
 go_cut [] (fun wc => ∃ (kq : Nat), Aside0 (cmp_Compare_int.j0 kq a0 a1 t367 = some r) ∧ Aside0 (kq ≤ k) ∧ Drawn0 w wc)
 case first =>
  have H := HC5.out
  clear HC5
  by_cases c6 : t366 = true
  ·subst c6
   rw [if_pos rfl] at H
   by_cases c7 : t367 = true
   ·subst c7
    rw [if_pos rfl] at H
    obtain rfl := Option.some.inj H
    go_wp2
    go_ret
    exact ⟨by first | rfl | (simp; done) | (simp [*]; done) | (simp; rw [Bool.eq_iff_iff]; simp; done), by repeat (first | exact Drawn0.refl _ | apply Drawn0.step)⟩
   ·replace c7 := Bool.eq_false_iff.mpr c7
    subst c7
    rw [if_neg zFT] at H
    obtain rfl := Option.some.inj H
    go_wp2
    go_ret
    exact ⟨by first | rfl | (simp; done) | (simp [*]; done) | (simp; rw [Bool.eq_iff_iff]; simp; done), by repeat (first | exact Drawn0.refl _ | apply Drawn0.step)⟩
  ·replace c6 := Bool.eq_false_iff.mpr c6
   subst c6
   rw [if_neg zFT] at H
   have H' := Aside0.mk H
   clear H
   go_wp2
   go_meet
   case rel => exact ⟨_, (by first | exact H' | (subst_vars; exact H')), ⟨by first | omega | exact Nat.le_refl _⟩, by repeat (first | exact Drawn0.refl _ | apply Drawn0.step)⟩
 case rest =>
  clear HC5
  try clear p2
  try clear c6
  try clear c7
  obtain ⟨kq, HA, HJ4, ⟨mc4, rfl⟩⟩ := hcut
  cases kq with
  | zero => exact absurd HA.out (by simp [cmp_Compare_int.j0])
  | succ kj4 =>
   have H := HA.out
   clear HA
   simp only [cmp_Compare_int.j0] at H
   have HC8 := Aside0.mk H
   clear H
   go_upto_if 13 with (fail)
   go_cut [] (fun wc => ∃ (kq : Nat), Aside0 (cmp_Compare_int.j1 kq a0 a1 = some r) ∧ Aside0 (kq ≤ kj4) ∧ Drawn0 w wc)
   case first =>
    have H := HC8.out
    clear HC8
    by_cases c9 : t367 = true
    ·subst c9
     rw [if_pos rfl] at H
     obtain rfl := Option.some.inj H
     go_wp2
     go_ret
     exact ⟨by first | rfl | (simp; done) | (simp [*]; done) | (simp; rw [Bool.eq_iff_iff]; simp; done), by repeat (first | exact Drawn0.refl _ | apply Drawn0.step)⟩
    ·replace c9 := Bool.eq_false_iff.mpr c9
     subst c9
     rw [if_neg zFT] at H
     have H' := Aside0.mk H
     clear H
     go_wp2
     go_meet
     case rel => exact ⟨_, (by first | exact H' | (subst_vars; exact H')), ⟨by have := HJ4.out; first | omega | exact Nat.le_refl _⟩, by repeat (first | exact Drawn0.refl _ | apply Drawn0.step)⟩
   case rest =>
    clear HC8
    try clear p2
    try clear c4
    try clear c6
    try clear c7
    try clear c9
    try clear p2
    obtain ⟨kq, HA, HJ7, ⟨mc7, rfl⟩⟩ := hcut
    cases kq with
    | zero => exact absurd HA.out (by simp [cmp_Compare_int.j1])
    | succ kj7 =>
     have H := HA.out
     clear HA
     simp only [cmp_Compare_int.j1] at H
     by_cases c10 : a0 < a1
     ·rw [if_pos c10] at H
      have c10b0 := decide_eq_true c10
      clear c10
      obtain rfl := Option.some.inj H
      go_wp2
      go_ret
      exact ⟨by first | rfl | (simp; done) | (simp [*]; done) | (simp; rw [Bool.eq_iff_iff]; simp; done), by repeat (first | exact Drawn0.refl _ | apply Drawn0.step)⟩
     ·rw [if_neg c10] at H
      have c10b0 := decide_eq_false c10
      clear c10
      by_cases c11 : a0 > a1
      ·rw [if_pos c11] at H
       have c11b0 : decide (a1 < a0) = true := decide_eq_true c11
       clear c11
       obtain rfl := Option.some.inj H
       go_wp2
       go_ret
       exact ⟨by first | rfl | (simp; done) | (simp [*]; done) | (simp; rw [Bool.eq_iff_iff]; simp; done), by repeat (first | exact Drawn0.refl _ | apply Drawn0.step)⟩
      ·rw [if_neg c11] at H
       have c11b0 : decide (a1 < a0) = false := decide_eq_false c11
       clear c11
       obtain rfl := Option.some.inj H
       go_wp2
       go_ret
       exact ⟨by first | rfl | (simp; done) | (simp [*]; done) | (simp; rw [Bool.eq_iff_iff]; simp; done), by repeat (first | exact Drawn0.refl _ | apply Drawn0.step)⟩
/-! ### cmp_isNaN_string: function 107 -/
def cmp_isNaN_string.f (a0 : ByteArray) : Option (Bool) := some (a0.toList != a0.toList)
theorem cmp_isNaN_string.calls (a0 : ByteArray) (r : Bool) (w : World) (h : cmp_isNaN_string.f a0 = some r) :
  Calls Tryd.prog 107 #[.string a0] w fun e w' => e = .returned (.bool r) ∧ Drawn0 w w' := by
 have H : (some (a0.toList != a0.toList)) = some r := h
 clear h
 obtain rfl := Option.some.inj H
 go_enter Tryd.func107, Tryd.ntmps107
 go_wp2
 go_ret
 exact ⟨by first | rfl | (simp; done) | (simp [*]; done) | (simp; rw [Bool.eq_iff_iff]; simp; done), by repeat (first | exact Drawn0.refl _ | apply Drawn0.step)⟩
/-! ### cmp_Compare_string: function 92 -/
mutual
def cmp_Compare_string.j0 : Nat → ByteArray → ByteArray → Bool → Option (Int)
 | 0, _, _, _ => none
 | k + 1, x0, x1, x6 => if x6 = true then (some 1) else (cmp_Compare_string.j1 k x0 x1)
def cmp_Compare_string.j1 : Nat → ByteArray → ByteArray → Option (Int)
 | 0, _, _ => none
 | k + 1, x0, x1 => if (Op.bytesLess x0.toList x1.toList) = true then (some (-1)) else (if (Op.bytesLess x1.toList x0.toList) = true then (some 1) else (some 0))
end
def cmp_Compare_string.f (k : Nat) (a0 : ByteArray) (a1 : ByteArray) : Option (Int) := (cmp_isNaN_string.f a0).bind fun t368 => ((cmp_isNaN_string.f a1).bind fun t369 => (if t368 = true then (if t369 = true then (some 0) else (some (-1))) else (cmp_Compare_string.j0 k a0 a1 t369)))
theorem cmp_Compare_string.calls (k : Nat) (a0 : ByteArray) (a1 : ByteArray) (r : Int) (w : World) (h : cmp_Compare_string.f k a0 a1 = some r) :
  Calls Tryd.prog 92 #[.string a0, .string a1] w fun e w' => e = .returned (.int .i64 r) ∧ Drawn0 w w' := by
 have H : ((cmp_isNaN_string.f a0).bind fun t368 => ((cmp_isNaN_string.f a1).bind fun t369 => (if t368 = true then (if t369 = true then (some 0) else (some (-1))) else (cmp_Compare_string.j0 k a0 a1 t369)))) = some r := h
 clear h
 replace H := Option.bind_eq_some_iff.mp H
 obtain ⟨t368, A30, H⟩ := H
 try dsimp only at H
 have A3 := Aside0.mk A30
 clear A30
 replace H := Option.bind_eq_some_iff.mp H
 obtain ⟨t369, A40, H⟩ := H
 try dsimp only at H
 have A4 := Aside0.mk A40
 clear A40
 have HC5 := Aside0.mk H
 clear H
 go_enter Tryd.func92, Tryd.ntmps92
 go_upto_if 11 with (first | ((with_reducible refine zq 107 ?_); refine zg (some 8) Tryd.func107 #[.string a0] ?_; (with_reducible refine (cmp_isNaN_string.calls a0 t368 _ A3.out).mono ?_); rintro e w' ⟨rfl, ⟨nd, rfl⟩⟩; refine ⟨_, rfl, ?_⟩) | ((with_reducible refine zq 107 ?_); refine zg (some 10) Tryd.func107 #[.string a1] ?_; (with_reducible refine (cmp_isNaN_string.calls a1 t369 _ A4.out).mono ?_); rintro e w' ⟨rfl, ⟨nd, rfl⟩⟩; refine ⟨_, rfl, ?_⟩))
 (try simp only [Act.put, zT])
 go_cut [] (fun wc => ∃ (kq : Nat), Aside0 (cmp_Compare_string.j0 kq a0 a1 t369 = some r) ∧ Aside0 (kq ≤ k) ∧ Drawn0 w wc)
 case first =>
  have H := HC5.out
  clear HC5
  by_cases c6 : t368 = true
  ·subst c6
   rw [if_pos rfl] at H
   by_cases c7 : t369 = true
   ·subst c7
    rw [if_pos rfl] at H
    obtain rfl := Option.some.inj H
    go_wp2
    go_ret
    exact ⟨by first | rfl | (simp; done) | (simp [*]; done) | (simp; rw [Bool.eq_iff_iff]; simp; done), by repeat (first | exact Drawn0.refl _ | apply Drawn0.step)⟩
   ·replace c7 := Bool.eq_false_iff.mpr c7
    subst c7
    rw [if_neg zFT] at H
    obtain rfl := Option.some.inj H
    go_wp2
    go_ret
    exact ⟨by first | rfl | (simp; done) | (simp [*]; done) | (simp; rw [Bool.eq_iff_iff]; simp; done), by repeat (first | exact Drawn0.refl _ | apply Drawn0.step)⟩
  ·replace c6 := Bool.eq_false_iff.mpr c6
   subst c6
   rw [if_neg zFT] at H
   have H' := Aside0.mk H
   clear H
   go_wp2
   go_meet
   case rel => exact ⟨_, (by first | exact H' | (subst_vars; exact H')), ⟨by first | omega | exact Nat.le_refl _⟩, by repeat (first | exact Drawn0.refl _ | apply Drawn0.step)⟩
 case rest =>
  clear HC5
  try clear c1
  try clear p2
  try clear c6
  try clear c7
  obtain ⟨kq, HA, HJ4, ⟨mc4, rfl⟩⟩ := hcut
  cases kq with
  | zero => exact absurd HA.out (by simp [cmp_Compare_string.j0])
  | succ kj4 =>
   have H := HA.out
   clear HA
   simp only [cmp_Compare_string.j0] at H
   have HC8 := Aside0.mk H
   clear H
   go_upto_if 13 with (fail)
   go_cut [] (fun wc => ∃ (kq : Nat), Aside0 (cmp_Compare_string.j1 kq a0 a1 = some r) ∧ Aside0 (kq ≤ kj4) ∧ Drawn0 w wc)
   case first =>
    have H := HC8.out
    clear HC8
    by_cases c9 : t369 = true
    ·subst c9
     rw [if_pos rfl] at H
     obtain rfl := Option.some.inj H
     go_wp2
     go_ret
     exact ⟨by first | rfl | (simp; done) | (simp [*]; done) | (simp; rw [Bool.eq_iff_iff]; simp; done), by repeat (first | exact Drawn0.refl _ | apply Drawn0.step)⟩
    ·replace c9 := Bool.eq_false_iff.mpr c9
     subst c9
     rw [if_neg zFT] at H
     have H' := Aside0.mk H
     clear H
     go_wp2
     go_meet
     case rel => exact ⟨_, (by first | exact H' | (subst_vars; exact H')), ⟨by have := HJ4.out; first | omega | exact Nat.le_refl _⟩, by repeat (first | exact Drawn0.refl _ | apply Drawn0.step)⟩
   case rest =>
    clear HC8
    try clear c1
    try clear p2
    try clear c4
    try clear c6
    try clear c7
    try clear c9
    try clear p2
    obtain ⟨kq, HA, HJ7, ⟨mc7, rfl⟩⟩ := hcut
    cases kq with
    | zero => exact absurd HA.out (by simp [cmp_Compare_string.j1])
    | succ kj7 =>
     have H := HA.out
     clear HA
     simp only [cmp_Compare_string.j1] at H
     by_cases c10 : (Op.bytesLess a0.toList a1.toList) = true
     ·rw [if_pos c10] at H
      have c10b0 : (Op.bytesLess a0.toList a1.toList) = true := c10
      clear c10
      obtain rfl := Option.some.inj H
      go_wp2
      go_ret
      exact ⟨by first | rfl | (simp; done) | (simp [*]; done) | (simp; rw [Bool.eq_iff_iff]; simp; done), by repeat (first | exact Drawn0.refl _ | apply Drawn0.step)⟩
     ·rw [if_neg c10] at H
      have c10b0 : (Op.bytesLess a0.toList a1.toList) = false := by simpa using c10
      clear c10
      by_cases c11 : (Op.bytesLess a1.toList a0.toList) = true
      ·rw [if_pos c11] at H
       have c11b0 : (Op.bytesLess a1.toList a0.toList) = true := c11
       clear c11
       obtain rfl := Option.some.inj H
       go_wp2
       go_ret
       exact ⟨by first | rfl | (simp; done) | (simp [*]; done) | (simp; rw [Bool.eq_iff_iff]; simp; done), by repeat (first | exact Drawn0.refl _ | apply Drawn0.step)⟩
      ·rw [if_neg c11] at H
       have c11b0 : (Op.bytesLess a1.toList a0.toList) = false := by simpa using c11
       clear c11
       obtain rfl := Option.some.inj H
       go_wp2
       go_ret
       exact ⟨by first | rfl | (simp; done) | (simp [*]; done) | (simp; rw [Bool.eq_iff_iff]; simp; done), by repeat (first | exact Drawn0.refl _ | apply Drawn0.step)⟩
end Go.Proofs.YtbjgmbhkofgjaaaDoor.PGB
