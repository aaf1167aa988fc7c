/- The walks of the functions that these laws reach, and what each comes to: printed by this session's program. -/
import Derived.Test.YtbjgmbhkofgjaaaDoorZGBPGBx0
import Derived.Test.YtbjgmbhkofgjaaaDoorZGBPGBx1
import Derived.Test.YtbjgmbhkofgjaaaDoorZGBPGBx2
import Derived.Test.YtbjgmbhkofgjaaaDoorZGBSays
import Derived.Test.YtbjgmbhkofgjaaaDoorZGBRegs
namespace Go.Proofs.YtbjgmbhkofgjaaaDoor.PGB
open Go.RowKit Go.Proofs.YtbjgmbhkofgjaaaDoorW.PrintWords Go.Proofs.YtbjgmbhkofgjaaaDoorW.PrintLast Go.Proofs.YtbjgmbhkofgjaaaDoorW.PrintMore
attribute [local go_sem high] Go.Proofs.YtbjgmbhkofgjaaaDoor.Mine.str_gtr Go.Proofs.YtbjgmbhkofgjaaaDoor.Mine.str_leq Go.Proofs.YtbjgmbhkofgjaaaDoor.Mine.str_geq
attribute [local go_sem] max2_int min2_int max_two min_two max_three min_three max_four min_four   -- for this text's walks alone
set_option linter.unusedVariables false
set_option maxHeartbeats 8000000
set_option maxRecDepth 100000
set_option linter.unusedSimpArgs false
/-! ### spec_l3Any: function 27 -/
def spec_l3Any.f (k : Nat) (s0_0 : List Int) (s0_1 : Int) (s0_2 : Int) : Option (Int × Int × Int × List ByteArray × Int × Int) := (spec_l3Draw.f k s0_0 s0_1 s0_2).bind fun bt164 => ((spec_l1Below.f k s0_0 bt164.2.2.2.2.1 bt164.2.2.2.2.2 8).bind fun bt173 => (if bt173.1 = 0 then ((spec_l1Int.f k s0_0 bt173.2.1 bt173.2.2 (([(-1), 9999, 10000] : List Int))).bind fun bt179 => (some (bt179.1, bt164.2.1, bt164.2.2.1, bt164.2.2.2.1, bt179.2.1, bt179.2.2))) else (if bt173.1 = 1 then ((spec_l1Int.f k s0_0 bt173.2.1 bt173.2.2 (([(-1), 9999, 10000] : List Int))).bind fun bt185 => (some (bt164.1, bt164.2.1, bt185.1, bt164.2.2.2.1, bt185.2.1, bt185.2.2))) else (if bt173.1 = 2 then ((spec_l1Str.f k s0_0 bt173.2.1 bt173.2.2 (([(⟨#[]⟩ : ByteArray), (⟨#[48, 49]⟩ : ByteArray), (⟨#[110, 105, 110, 101, 45, 98, 121, 116, 101]⟩ : ByteArray), (⟨#[97, 95]⟩ : ByteArray), (⟨#[48, 48]⟩ : ByteArray), (⟨#[101, 105, 103, 104, 116, 45, 98, 121]⟩ : ByteArray)] : List ByteArray))).bind fun bt191 => (if bt164.2.2.2.1.length < 8796093022208 then (some (bt164.1, bt164.2.1, bt164.2.2.1, (bt164.2.2.2.1 ++ [bt191.1]), bt191.2.1, bt191.2.2)) else (none))) else (if bt173.1 = 3 then ((some (([(⟨#[97]⟩ : ByteArray), (⟨#[98]⟩ : ByteArray), (⟨#[99]⟩ : ByteArray), (⟨#[100]⟩ : ByteArray)] : List ByteArray) : List ByteArray)).bind fun y197 => ((spec_l1Int.f k s0_0 bt173.2.1 bt173.2.2 (([3, 4] : List Int))).bind fun bt203 => (if 0 ≤ bt203.1 then (if bt203.1 ≤ (y197.length : Int) then (some (bt164.1, bt164.2.1, bt164.2.2.1, (y197.take (bt203.1 : Int).toNat), bt203.2.1, bt203.2.2)) else (none)) else (none)))) else (some (bt164.1, bt164.2.1, bt164.2.2.1, bt164.2.2.2.1, bt173.2.1, bt173.2.2)))))))
def spec_l3Any.T8 : Bool × List (List Nat × List Nat) := (true, [([], []), ([0], [0]), ([], []), ([], []), ([2, 3], [2, 3]), ([4], [4]), ([1, 5, 4], [1, 5]), ([0, 1, 2, 3, 4, 5, 6], []), ([7, 6, 6, 0, 1, 2, 3, 4, 5, 6], [6, 7])])
def spec_l3Any.B8 : List Nat := [0, 1, 0, 0, 12, 28, 63, 127, 255]
theorem spec_l3Any.tab8 : rtab .any (opsOf Tryd.f27 8) = spec_l3Any.T8 := by kernel_rfl
theorem spec_l3Any.bits8 : waitsOk spec_l3Any.T8.2 spec_l3Any.B8 = true := by kernel_rfl
theorem spec_l3Any.calls (k : Nat) (g : Nat) (s0_0 : List Int) (s0_1 : Int) (s0_2 : Int) (r1 : Int) (r2 : Int) (r3 : Int) (r4 : List ByteArray) (r5 : Int) (r6 : Int) (w0 w : World) (hI : IsS68 w0 w g s0_0 s0_1 s0_2) (hB : Below w0.heap.size w0 w) (h : spec_l3Any.f k s0_0 s0_1 s0_2 = some (r1, r2, r3, r4, r5, r6)) :
  Calls Tryd.prog 27 #[.pointer (some ⟨g, 0, none⟩)] w fun e w' => ∃ v3_ : Value, e = .returned (.agg #[.int .i64 r1, .int .i64 r2, .int .i64 r3, v3_]) ∧ Kd.R Kd.string 9 w' w.heap.size (fun _ => True) v3_ r4 ∧ IsS68 w0 w' g s0_0 r5 r6 ∧ Below w0.heap.size w0 w' ∧ KeepBut w w' g none := by
 have hu26 := Tryd.underlying26
 have HI0 := Aside0.mk hI
 have HK := zA (KeepBut.refl w g none)
 have HL := Aside0.mk hB.size
 clear hI
 have HW0 := Aside0.mk hB.size
 have HB := Aside0.mk hB
 clear hB
 have H : ((spec_l3Draw.f k s0_0 s0_1 s0_2).bind fun bt164 => ((spec_l1Below.f k s0_0 bt164.2.2.2.2.1 bt164.2.2.2.2.2 8).bind fun bt173 => (if bt173.1 = 0 then ((spec_l1Int.f k s0_0 bt173.2.1 bt173.2.2 (([(-1), 9999, 10000] : List Int))).bind fun bt179 => (some (bt179.1, bt164.2.1, bt164.2.2.1, bt164.2.2.2.1, bt179.2.1, bt179.2.2))) else (if bt173.1 = 1 then ((spec_l1Int.f k s0_0 bt173.2.1 bt173.2.2 (([(-1), 9999, 10000] : List Int))).bind fun bt185 => (some (bt164.1, bt164.2.1, bt185.1, bt164.2.2.2.1, bt185.2.1, bt185.2.2))) else (if bt173.1 = 2 then ((spec_l1Str.f k s0_0 bt173.2.1 bt173.2.2 (([(⟨#[]⟩ : ByteArray), (⟨#[48, 49]⟩ : ByteArray), (⟨#[110, 105, 110, 101, 45, 98, 121, 116, 101]⟩ : ByteArray), (⟨#[97, 95]⟩ : ByteArray), (⟨#[48, 48]⟩ : ByteArray), (⟨#[101, 105, 103, 104, 116, 45, 98, 121]⟩ : ByteArray)] : List ByteArray))).bind fun bt191 => (if bt164.2.2.2.1.length < 8796093022208 then (some (bt164.1, bt164.2.1, bt164.2.2.1, (bt164.2.2.2.1 ++ [bt191.1]), bt191.2.1, bt191.2.2)) else (none))) else (if bt173.1 = 3 then ((some (([(⟨#[97]⟩ : ByteArray), (⟨#[98]⟩ : ByteArray), (⟨#[99]⟩ : ByteArray), (⟨#[100]⟩ : ByteArray)] : List ByteArray) : List ByteArray)).bind fun y197 => ((spec_l1Int.f k s0_0 bt173.2.1 bt173.2.2 (([3, 4] : List Int))).bind fun bt203 => (if 0 ≤ bt203.1 then (if bt203.1 ≤ (y197.length : Int) then (some (bt164.1, bt164.2.1, bt164.2.2.1, (y197.take (bt203.1 : Int).toNat), bt203.2.1, bt203.2.2)) else (none)) else (none)))) else (some (bt164.1, bt164.2.1, bt164.2.2.1, bt164.2.2.2.1, bt173.2.1, bt173.2.2)))))))) = some (r1, r2, r3, r4, r5, r6) := h
 clear h
 replace H := Option.bind_eq_some_iff.mp H
 obtain ⟨⟨t164, t165, t166, t167, t170, t171⟩, A20, H⟩ := H
 try dsimp only at H
 have A2 := Aside0.mk A20
 clear A20
 replace H := Option.bind_eq_some_iff.mp H
 obtain ⟨⟨t173, t174, t175⟩, A30, H⟩ := H
 try dsimp only at H
 have A3 := Aside0.mk A30
 clear A30
 by_cases c4 : t173 = 0
 ·rw [if_pos c4] at H
  have c4b0 : (t173 == 0) = true := beq_iff_eq.mpr c4
  have c4b1 : (t173 != 0) = false := bne_eq_false_iff_eq.mpr c4
  clear c4
  obtain ⟨y176, hy176⟩ : ∃ y_ : List Int, y_ = (([(-1), 9999, 10000] : List Int)) := ⟨_, rfl⟩
  replace H : ((spec_l1Int.f k s0_0 t174 t175 y176).bind fun bt179 => (some (bt179.1, t165, t166, t167, bt179.2.1, bt179.2.2))) = some (r1, r2, r3, r4, r5, r6) := by first | (rw [hy176]; with_reducible exact H) | (have H2_ := (Option.bind_some _ _).symm.trans H; rw [hy176]; with_reducible exact H2_) | (have H2_ := (Option.bind_some _ _).symm.trans H; with_reducible exact H2_) | with_reducible exact H | (rw [hy176]; exact H) | exact H
  have Ny176 := Aside0.mk hy176
  clear hy176
  replace H := Option.bind_eq_some_iff.mp H
  obtain ⟨⟨t179, t180, t181⟩, A50, H⟩ := H
  try dsimp only at H
  have A5 := Aside0.mk A50
  clear A50
  simp only [Option.some.injEq, Prod.mk.injEq] at H
  obtain ⟨rfl, rfl, rfl, rfl, rfl, rfl⟩ := H
  go_enter Tryd.func27, Tryd.ntmps27
  go_wp2_with (first | ((with_reducible refine zd 2 ?_); refine ze 2 26 #[.int .i64 0, .int .i64 0, .int .i64 0, .slice none 0 0] ?_; intro gb163 hg w6 hbox hb; replace HB := zA (below_step (zX HB.out (IsS68.ge HI0.out)) hb); have BK163 := zA (hbox); have GW163 := zA ((by rw [hg]; exact (keep_size (w := w) (g := g) (row := none) (zQ HK.out)) : w.heap.size ≤ gb163)); have GE163 := zA ((Nat.le_trans HW0.out (by rw [hg]; exact (keep_size (w := w) (g := g) (row := none) (zQ HK.out)) : w.heap.size ≤ gb163) : w0.heap.size ≤ gb163)); replace HK := zA (KeepBut.trans (zQ HK.out) (KeepBut.of_below hb g none) (.inl rfl)); have NB0_163 := zA ((by rw [hg]; exact Nat.ne_of_lt (IsS68.lt (show IsS68 w0 _ g s0_0 s0_1 s0_2 from by repeat (first | (with_reducible first | exact HI0.out | apply IsS68.alloc | apply IsS68.drewN | apply IsS68.drew | apply IsS68.set_1 | apply IsS68.set_2) | exact HI0.out))) : g ≠ gb163)); have NB163_0 := zA ((by rw [hg]; exact Nat.ne_of_gt (IsS68.lt (show IsS68 w0 _ g s0_0 s0_1 s0_2 from by repeat (first | (with_reducible first | exact HI0.out | apply IsS68.alloc | apply IsS68.drewN | apply IsS68.drew | apply IsS68.set_1 | apply IsS68.set_2) | exact HI0.out))) : gb163 ≠ g)); replace HI0 := zA (IsS68.below (by repeat (first | (with_reducible first | exact HI0.out | apply IsS68.alloc | apply IsS68.drewN | apply IsS68.drew | apply IsS68.set_1 | apply IsS68.set_2) | exact HI0.out)) hb); clear hb hbox hg) | ((with_reducible refine zq 31 ?_); refine zg (some 5) Tryd.func31 #[.pointer (some ⟨g, 0, none⟩)] ?_; (with_reducible refine (spec_l3Draw.calls k g s0_0 s0_1 s0_2 t164 t165 t166 t167 t170 t171 w0 _ ?side1 ?side2 A2.out).mono ?_); (case side1 => repeat (first | (with_reducible first | exact HI0.out | apply IsS68.alloc | apply IsS68.drewN | apply IsS68.drew | apply IsS68.set_1 | apply IsS68.set_2 | refine IsS68.far ?_ NB0_163.out _) | exact HI0.out)); (case side2 => repeat (first | (with_reducible first | exact HB.out | apply below_alloc | apply pw_below_drewN | apply below_drew1 | refine below_set ?_ (IsS68.ge HI0.out) | refine below_set ?_ GE163.out) | exact HB.out)); rintro e w7 ⟨v168, rfl, ho0, hi, hb, hk⟩; refine ⟨_, rfl, ?_⟩; replace BK163 := zA (KeepBut.blk hk (g' := gb163) (o := .cells #[.int .i64 0, .int .i64 0, .int .i64 0, .slice none 0 0] 26 (0, 0)) (zK BK163.out) NB163_0.out (by simp)); have HO169 := zA (Kd.R_lower ho0 (keep_size (w := w) (g := g) (row := none) (zQ HK.out))); replace HK := zA (KeepBut.trans (zQ HK.out) hk (.inl rfl)); replace HB := zA (hb); replace HI0 := zA (hi); (try clear hb hk hi ho0)) | ((with_reducible refine zd 3 ?_); refine ze 3 26 #[.int .i64 0, .int .i64 0, .int .i64 0, .slice none 0 0] ?_; intro gb172 hg w8 hbox hb; replace HO169 := zr HO169 hb; replace HB := zA (below_step (zX HB.out (IsS68.ge HI0.out)) hb); have BK172 := zA (hbox); have GW172 := zA ((by rw [hg]; exact (keep_size (w := w) (g := g) (row := none) (zQ HK.out)) : w.heap.size ≤ gb172)); have GE172 := zA ((Nat.le_trans HW0.out (by rw [hg]; exact (keep_size (w := w) (g := g) (row := none) (zQ HK.out)) : w.heap.size ≤ gb172) : w0.heap.size ≤ gb172)); replace HK := zA (KeepBut.trans (zQ HK.out) (KeepBut.of_below hb g none) (.inl rfl)); have NB163_172 := zA (zL hg (zK BK163.out)); have NB172_163 := zA (zJ hg (zK BK163.out)); replace BK163 := zb BK163 hb; have NB0_172 := zA ((by rw [hg]; exact Nat.ne_of_lt (IsS68.lt (show IsS68 w0 _ g s0_0 t170 t171 from by repeat (first | (with_reducible first | exact HI0.out | apply IsS68.alloc | apply IsS68.drewN | apply IsS68.drew | apply IsS68.set_1 | apply IsS68.set_2 | refine IsS68.far ?_ NB0_163.out _) | exact HI0.out))) : g ≠ gb172)); have NB172_0 := zA ((by rw [hg]; exact Nat.ne_of_gt (IsS68.lt (show IsS68 w0 _ g s0_0 t170 t171 from by repeat (first | (with_reducible first | exact HI0.out | apply IsS68.alloc | apply IsS68.drewN | apply IsS68.drew | apply IsS68.set_1 | apply IsS68.set_2 | refine IsS68.far ?_ NB0_163.out _) | exact HI0.out))) : gb172 ≠ g)); replace HI0 := zA (IsS68.below (by repeat (first | (with_reducible first | exact HI0.out | apply IsS68.alloc | apply IsS68.drewN | apply IsS68.drew | apply IsS68.set_1 | apply IsS68.set_2 | refine IsS68.far ?_ NB0_163.out _) | exact HI0.out)) hb); clear hb hbox hg; have hnb9 := NB172_163.out; have hnc9 := NB163_172.out; have hnb10 := NB172_0.out; have hnc10 := NB0_172.out; obtain ⟨hcz11_0, hcz11_1, hcz11_2, hcz11_3, hfz11_0, hfz11_1, hfz11_2, hfz11_3⟩ := ze4 BK172.out; obtain ⟨Ao12, co12, eo12⟩ := Kd.R_slice HO169.out; subst eo12) | ((with_reducible refine zq 32 ?_); refine zg (some 7) Tryd.func32 #[.pointer (some ⟨g, 0, none⟩), .int .i64 8] ?_; (with_reducible refine (spec_l1Below.calls k g s0_0 t170 t171 8 t173 t174 t175 w0 _ ?side1 ?side2 A3.out).mono ?_); (case side1 => repeat (first | (with_reducible first | exact HI0.out | apply IsS68.alloc | apply IsS68.drewN | apply IsS68.drew | apply IsS68.set_1 | apply IsS68.set_2 | refine IsS68.far ?_ NB0_163.out _ | refine IsS68.far ?_ NB0_172.out _) | exact HI0.out)); (case side2 => repeat (first | (with_reducible first | exact HB.out | apply below_alloc | apply pw_below_drewN | apply below_drew1 | refine below_set ?_ (IsS68.ge HI0.out) | refine below_set ?_ GE163.out | refine below_set ?_ GE172.out) | exact HB.out)); rintro e w13 ⟨rfl, hi, hb, hk⟩; refine ⟨_, rfl, ?_⟩; replace BK163 := zA (KeepBut.blk hk (g' := gb163) (o := .cells #[.int .i64 0, .int .i64 0, .int .i64 0, .slice none 0 0] 26 (0, 0)) (zK BK163.out) NB163_0.out (by simp)); replace HO169 := zA (Kd.R_mono (Kd.R_keep (IsS68.apart (show IsS68 w0 _ g s0_0 t170 t171 from by repeat (first | (with_reducible first | exact HI0.out | apply IsS68.alloc | apply IsS68.drewN | apply IsS68.drew | apply IsS68.set_1 | apply IsS68.set_2 | refine IsS68.far ?_ NB0_163.out _ | refine IsS68.far ?_ NB0_172.out _) | exact HI0.out)) (zR (Kd.R_mono (Kd.R_far (p := ⟨gb172, 3, none⟩) (Kd.R_far (p := ⟨gb172, 2, none⟩) (Kd.R_far (p := ⟨gb172, 1, none⟩) (Kd.R_far (p := ⟨gb172, 0, none⟩) (Kd.R_types HO169.out BK172.out (by decide)) (fun _ hk => hk.2) (.int .i64 t164)) (fun _ hk => hk.2) (.int .i64 t165)) (fun _ hk => hk.2) (.int .i64 t166)) (fun _ hk => hk.2) (.slice Ao12 t167.length co12)) (fun _ h_ => h_.1))) (by decide)) hk (fun _ h => h.2)) (fun _ h => h.1)); replace BK172 := zA (KeepBut.blk hk (g' := gb172) (o := .cells #[.int .i64 t164, .int .i64 t165, .int .i64 t166, .slice Ao12 t167.length co12] 26 (0, 0)) (by (with_reducible repeat (first | refine blk_drewN ?_ _ | refine blk_drew ?_ | refine blk_alloc ?_ _)); refine blk_put (cs := #[.int .i64 t164, .int .i64 t165, .int .i64 t166, .slice none 0 0]) ?_ 3 _ rfl; (with_reducible repeat (first | refine blk_drewN ?_ _ | refine blk_drew ?_ | refine blk_alloc ?_ _)); refine blk_put (cs := #[.int .i64 t164, .int .i64 t165, .int .i64 0, .slice none 0 0]) ?_ 2 _ rfl; (with_reducible repeat (first | refine blk_drewN ?_ _ | refine blk_drew ?_ | refine blk_alloc ?_ _)); refine blk_put (cs := #[.int .i64 t164, .int .i64 0, .int .i64 0, .slice none 0 0]) ?_ 1 _ rfl; (with_reducible repeat (first | refine blk_drewN ?_ _ | refine blk_drew ?_ | refine blk_alloc ?_ _)); refine blk_put (cs := #[.int .i64 0, .int .i64 0, .int .i64 0, .slice none 0 0]) ?_ 0 _ rfl; (with_reducible repeat (first | refine blk_drewN ?_ _ | refine blk_drew ?_ | refine blk_alloc ?_ _)); exact BK172.out) NB172_0.out (by simp)); replace HK := zA (KeepBut.trans (zQ HK.out) hk (.inl rfl)); replace HB := zA (hb); replace HI0 := zA (hi); (try clear hb hk hi)) | ((with_reducible refine gate_dst (N := 11) rfl ?_); refine Kd.R_lit (Kd.int .i64) _ 3 ?hg (N := 11) ?hd (xs := ([(-1), 9999, 10000] : List Int)) (inner := [.int .i64 (-1), .int .i64 9999, .int .i64 10000]) (ok := fun _ => True) (okp := fun _ => True) ?hr ?hp (fun _ hk => hk) trivial (Below.refl _ _) (Nat.le_refl _) (by simp) ?_; (case hd => rfl); (case hg => rfl); (case hr => first | (go_simp; done) | (go_simp; rfl)); (case hp => exact (Reps.one (show Kd.M (Kd.int .i64) _ _ _ (-1) [.int .i64 (-1)] from rfl) (Reps.one (show Kd.M (Kd.int .i64) _ _ _ 9999 [.int .i64 9999] from rfl) (Reps.one (show Kd.M (Kd.int .i64) _ _ _ 10000 [.int .i64 10000] from rfl) (Reps.none _ _))))); intro v177 w14 ho15 hb hg_ hnew_; clear hg_ hnew_; (first | rw [← Ny176.out] at ho15 | (simp only [Int.reduceToNat] at ho15; rw [← Ny176.out] at ho15)); replace HO169 := zr HO169 hb; have HO178 := zA (Kd.R_lower ho15 (keep_size (w := w) (g := g) (row := none) (zQ HK.out))); replace BK163 := zb BK163 hb; replace BK172 := zb BK172 hb; replace HK := zA (KeepBut.trans (zQ HK.out) (KeepBut.of_below hb g none) (.inl rfl)); replace HB := zA (below_step (zX HB.out (IsS68.ge HI0.out)) hb); replace HI0 := zA (IsS68.below (by repeat (first | (with_reducible first | exact HI0.out | apply IsS68.alloc | apply IsS68.drewN | apply IsS68.drew | apply IsS68.set_1 | apply IsS68.set_2 | refine IsS68.far ?_ NB0_163.out _ | refine IsS68.far ?_ NB0_172.out _) | exact HI0.out)) hb); clear hb ho15; obtain ⟨Ao16, co16, eo16⟩ := Kd.R_slice HO178.out; subst eo16) | ((with_reducible refine zq 56 ?_); refine zg (some 12) Tryd.func56 #[.pointer (some ⟨g, 0, none⟩), .slice Ao16 y176.length co16] ?_; (with_reducible refine (spec_l1Int.calls k g s0_0 t174 t175 _ _ y176 t179 t180 t181 w0 _ ?side1 ?side2 ?side3 ?side4 ?side5 A5.out).mono ?_); (case side1 => repeat (first | (with_reducible first | exact HI0.out | apply IsS68.alloc | apply IsS68.drewN | apply IsS68.drew | apply IsS68.set_1 | apply IsS68.set_2 | refine IsS68.far ?_ NB0_163.out _ | refine IsS68.far ?_ NB0_172.out _) | exact HI0.out)); (case side2 => repeat (first | (with_reducible first | exact HB.out | apply below_alloc | apply pw_below_drewN | apply below_drew1 | refine below_set ?_ (IsS68.ge HI0.out) | refine below_set ?_ GE163.out | refine below_set ?_ GE172.out) | exact HB.out)); (case side3 => repeat (first | exact (Kd.R_reads' HO178.out).2.2 | (with_reducible refine Kd.C_alloc ?_ _) | (with_reducible refine Kd.C_drewN ?_ _) | (with_reducible refine Kd.C_drew ?_))); (case side4 => exact (Kd.R_reads' HO178.out).2.1); (case side5 => exact far_slice (IsS68.own_ne HI0.out HO178.out (by decide))); rintro e w17 ⟨rfl, hi, hb, hk⟩; refine ⟨_, rfl, ?_⟩; replace BK163 := zA (KeepBut.blk hk (g' := gb163) (o := .cells #[.int .i64 0, .int .i64 0, .int .i64 0, .slice none 0 0] 26 (0, 0)) (zK BK163.out) NB163_0.out (by simp)); replace HO169 := zA (Kd.R_mono (Kd.R_keep (IsS68.apart (show IsS68 w0 _ g s0_0 t174 t175 from by repeat (first | (with_reducible first | exact HI0.out | apply IsS68.alloc | apply IsS68.drewN | apply IsS68.drew | apply IsS68.set_1 | apply IsS68.set_2 | refine IsS68.far ?_ NB0_163.out _ | refine IsS68.far ?_ NB0_172.out _) | exact HI0.out)) (zR HO169.out) (by decide)) hk (fun _ h => h.2)) (fun _ h => h.1)); replace BK172 := zA (KeepBut.blk hk (g' := gb172) (o := .cells #[.int .i64 t164, .int .i64 t165, .int .i64 t166, .slice Ao12 t167.length co12] 26 (0, 0)) (zK BK172.out) NB172_0.out (by simp)); replace HO178 := zA (Kd.R_mono (Kd.R_keep (IsS68.apart (show IsS68 w0 _ g s0_0 t174 t175 from by repeat (first | (with_reducible first | exact HI0.out | apply IsS68.alloc | apply IsS68.drewN | apply IsS68.drew | apply IsS68.set_1 | apply IsS68.set_2 | refine IsS68.far ?_ NB0_163.out _ | refine IsS68.far ?_ NB0_172.out _) | exact HI0.out)) (zR HO178.out) (by decide)) hk (fun _ h => h.2)) (fun _ h => h.1)); replace HK := zA (KeepBut.trans (zQ HK.out) hk (.inl rfl)); replace HB := zA (hb); replace HI0 := zA (hi); (try clear hb hk hi); obtain ⟨hcz18_0, hcz18_1, hcz18_2, hcz18_3, hfz18_0, hfz18_1, hfz18_2, hfz18_3⟩ := ze4 BK172.out; have hnb19 := NB163_0.out; have hnc19 := NB0_163.out; obtain ⟨hcz20_0, hcz20_1, hcz20_2, hcz20_3, hfz20_0, hfz20_1, hfz20_2, hfz20_3⟩ := ze4 BK163.out))
  refine bodyPost_ret (results_cell_row rfl _ _ gb163 26 #[.int .i64 t179, .int .i64 t165, .int .i64 t166, .slice Ao12 t167.length co12] (0, 0) _ rfl (by (with_reducible repeat (first | refine blk_drewN ?_ _ | refine blk_drew ?_ | refine blk_alloc ?_ _)); refine blk_put (cs := #[.int .i64 t179, .int .i64 t165, .int .i64 t166, .slice none 0 0]) ?_ 3 _ rfl; (with_reducible repeat (first | refine blk_drewN ?_ _ | refine blk_drew ?_ | refine blk_alloc ?_ _)); refine blk_put (cs := #[.int .i64 t179, .int .i64 t165, .int .i64 0, .slice none 0 0]) ?_ 2 _ rfl; (with_reducible repeat (first | refine blk_drewN ?_ _ | refine blk_drew ?_ | refine blk_alloc ?_ _)); refine blk_put (cs := #[.int .i64 t179, .int .i64 0, .int .i64 0, .slice none 0 0]) ?_ 1 _ rfl; (with_reducible repeat (first | refine blk_drewN ?_ _ | refine blk_drew ?_ | refine blk_alloc ?_ _)); refine blk_put (cs := #[.int .i64 0, .int .i64 0, .int .i64 0, .slice none 0 0]) ?_ 0 _ rfl; (with_reducible repeat (first | refine blk_drewN ?_ _ | refine blk_drew ?_ | refine blk_alloc ?_ _)); refine blk_far ?_ NB163_172.out _; (with_reducible repeat (first | refine blk_drewN ?_ _ | refine blk_drew ?_ | refine blk_alloc ?_ _)); exact BK163.out) Tryd.underlying26 rfl (by kernel_rfl)) rfl ?_
  exact ⟨_, zE, by (with_reducible repeat (first | apply Kd.R_alloc | apply Kd.R_drewN | apply Kd.R_drew)); exact Kd.R_mono (Kd.R_far (p := ⟨gb163, 3, none⟩) (Kd.R_far (p := ⟨gb163, 2, none⟩) (Kd.R_far (p := ⟨gb163, 1, none⟩) (Kd.R_far (p := ⟨gb163, 0, none⟩) (Kd.R_far (p := ⟨gb172, 0, none⟩) (Kd.R_types (Kd.R_types HO169.out BK172.out (by decide)) BK163.out (by decide)) (fun _ hk => hk.1.2) (.int .i64 t179)) (fun _ hk => hk.2) (.int .i64 t179)) (fun _ hk => hk.2) (.int .i64 t165)) (fun _ hk => hk.2) (.int .i64 t166)) (fun _ hk => hk.2) (.slice Ao12 t167.length co12)) (fun _ hk => trivial), by repeat (first | (with_reducible first | exact HI0.out | apply IsS68.alloc | apply IsS68.drewN | apply IsS68.drew | apply IsS68.set_1 | apply IsS68.set_2 | refine IsS68.far ?_ NB0_163.out _ | refine IsS68.far ?_ NB0_172.out _) | exact HI0.out), zX HB.out (IsS68.ge HI0.out), zQ HK.out⟩
 ·rw [if_neg c4] at H
  have c4b0 : (t173 == 0) = false := beq_eq_false_iff_ne.mpr c4
  have c4b1 : (t173 != 0) = true := bne_iff_ne.mpr c4
  by_cases c21 : t173 = 1
  ·rw [if_pos c21] at H
   have c21b0 : (t173 == 1) = true := beq_iff_eq.mpr c21
   have c21b1 : (t173 != 1) = false := bne_eq_false_iff_eq.mpr c21
   clear c21
   obtain ⟨y182, hy182⟩ : ∃ y_ : List Int, y_ = (([(-1), 9999, 10000] : List Int)) := ⟨_, rfl⟩
   replace H : ((spec_l1Int.f k s0_0 t174 t175 y182).bind fun bt185 => (some (t164, t165, bt185.1, t167, bt185.2.1, bt185.2.2))) = some (r1, r2, r3, r4, r5, r6) := by first | (rw [hy182]; with_reducible exact H) | (have H2_ := (Option.bind_some _ _).symm.trans H; rw [hy182]; with_reducible exact H2_) | (have H2_ := (Option.bind_some _ _).symm.trans H; with_reducible exact H2_) | with_reducible exact H | (rw [hy182]; exact H) | exact H
   have Ny182 := Aside0.mk hy182
   clear hy182
   replace H := Option.bind_eq_some_iff.mp H
   obtain ⟨⟨t185, t186, t187⟩, A220, H⟩ := H
   try dsimp only at H
   have A22 := Aside0.mk A220
   clear A220
   simp only [Option.some.injEq, Prod.mk.injEq] at H
   obtain ⟨rfl, rfl, rfl, rfl, rfl, rfl⟩ := H
   go_enter Tryd.func27, Tryd.ntmps27
   go_wp2_with (first | ((with_reducible refine zd 2 ?_); refine ze 2 26 #[.int .i64 0, .int .i64 0, .int .i64 0, .slice none 0 0] ?_; intro gb163 hg w23 hbox hb; replace HB := zA (below_step (zX HB.out (IsS68.ge HI0.out)) hb); have BK163 := zA (hbox); have GW163 := zA ((by rw [hg]; exact (keep_size (w := w) (g := g) (row := none) (zQ HK.out)) : w.heap.size ≤ gb163)); have GE163 := zA ((Nat.le_trans HW0.out (by rw [hg]; exact (keep_size (w := w) (g := g) (row := none) (zQ HK.out)) : w.heap.size ≤ gb163) : w0.heap.size ≤ gb163)); replace HK := zA (KeepBut.trans (zQ HK.out) (KeepBut.of_below hb g none) (.inl rfl)); have NB0_163 := zA ((by rw [hg]; exact Nat.ne_of_lt (IsS68.lt (show IsS68 w0 _ g s0_0 s0_1 s0_2 from by repeat (first | (with_reducible first | exact HI0.out | apply IsS68.alloc | apply IsS68.drewN | apply IsS68.drew | apply IsS68.set_1 | apply IsS68.set_2) | exact HI0.out))) : g ≠ gb163)); have NB163_0 := zA ((by rw [hg]; exact Nat.ne_of_gt (IsS68.lt (show IsS68 w0 _ g s0_0 s0_1 s0_2 from by repeat (first | (with_reducible first | exact HI0.out | apply IsS68.alloc | apply IsS68.drewN | apply IsS68.drew | apply IsS68.set_1 | apply IsS68.set_2) | exact HI0.out))) : gb163 ≠ g)); replace HI0 := zA (IsS68.below (by repeat (first | (with_reducible first | exact HI0.out | apply IsS68.alloc | apply IsS68.drewN | apply IsS68.drew | apply IsS68.set_1 | apply IsS68.set_2) | exact HI0.out)) hb); clear hb hbox hg) | ((with_reducible refine zq 31 ?_); refine zg (some 5) Tryd.func31 #[.pointer (some ⟨g, 0, none⟩)] ?_; (with_reducible refine (spec_l3Draw.calls k g s0_0 s0_1 s0_2 t164 t165 t166 t167 t170 t171 w0 _ ?side1 ?side2 A2.out).mono ?_); (case side1 => repeat (first | (with_reducible first | exact HI0.out | apply IsS68.alloc | apply IsS68.drewN | apply IsS68.drew | apply IsS68.set_1 | apply IsS68.set_2 | refine IsS68.far ?_ NB0_163.out _) | exact HI0.out)); (case side2 => repeat (first | (with_reducible first | exact HB.out | apply below_alloc | apply pw_below_drewN | apply below_drew1 | refine below_set ?_ (IsS68.ge HI0.out) | refine below_set ?_ GE163.out) | exact HB.out)); rintro e w24 ⟨v168, rfl, ho0, hi, hb, hk⟩; refine ⟨_, rfl, ?_⟩; replace BK163 := zA (KeepBut.blk hk (g' := gb163) (o := .cells #[.int .i64 0, .int .i64 0, .int .i64 0, .slice none 0 0] 26 (0, 0)) (zK BK163.out) NB163_0.out (by simp)); have HO169 := zA (Kd.R_lower ho0 (keep_size (w := w) (g := g) (row := none) (zQ HK.out))); replace HK := zA (KeepBut.trans (zQ HK.out) hk (.inl rfl)); replace HB := zA (hb); replace HI0 := zA (hi); (try clear hb hk hi ho0)) | ((with_reducible refine zd 3 ?_); refine ze 3 26 #[.int .i64 0, .int .i64 0, .int .i64 0, .slice none 0 0] ?_; intro gb172 hg w25 hbox hb; replace HO169 := zr HO169 hb; replace HB := zA (below_step (zX HB.out (IsS68.ge HI0.out)) hb); have BK172 := zA (hbox); have GW172 := zA ((by rw [hg]; exact (keep_size (w := w) (g := g) (row := none) (zQ HK.out)) : w.heap.size ≤ gb172)); have GE172 := zA ((Nat.le_trans HW0.out (by rw [hg]; exact (keep_size (w := w) (g := g) (row := none) (zQ HK.out)) : w.heap.size ≤ gb172) : w0.heap.size ≤ gb172)); replace HK := zA (KeepBut.trans (zQ HK.out) (KeepBut.of_below hb g none) (.inl rfl)); have NB163_172 := zA (zL hg (zK BK163.out)); have NB172_163 := zA (zJ hg (zK BK163.out)); replace BK163 := zb BK163 hb; have NB0_172 := zA ((by rw [hg]; exact Nat.ne_of_lt (IsS68.lt (show IsS68 w0 _ g s0_0 t170 t171 from by repeat (first | (with_reducible first | exact HI0.out | apply IsS68.alloc | apply IsS68.drewN | apply IsS68.drew | apply IsS68.set_1 | apply IsS68.set_2 | refine IsS68.far ?_ NB0_163.out _) | exact HI0.out))) : g ≠ gb172)); have NB172_0 := zA ((by rw [hg]; exact Nat.ne_of_gt (IsS68.lt (show IsS68 w0 _ g s0_0 t170 t171 from by repeat (first | (with_reducible first | exact HI0.out | apply IsS68.alloc | apply IsS68.drewN | apply IsS68.drew | apply IsS68.set_1 | apply IsS68.set_2 | refine IsS68.far ?_ NB0_163.out _) | exact HI0.out))) : gb172 ≠ g)); replace HI0 := zA (IsS68.below (by repeat (first | (with_reducible first | exact HI0.out | apply IsS68.alloc | apply IsS68.drewN | apply IsS68.drew | apply IsS68.set_1 | apply IsS68.set_2 | refine IsS68.far ?_ NB0_163.out _) | exact HI0.out)) hb); clear hb hbox hg; have hnb26 := NB172_163.out; have hnc26 := NB163_172.out; have hnb27 := NB172_0.out; have hnc27 := NB0_172.out; obtain ⟨hcz28_0, hcz28_1, hcz28_2, hcz28_3, hfz28_0, hfz28_1, hfz28_2, hfz28_3⟩ := ze4 BK172.out; obtain ⟨Ao29, co29, eo29⟩ := Kd.R_slice HO169.out; subst eo29) | ((with_reducible refine zq 32 ?_); refine zg (some 7) Tryd.func32 #[.pointer (some ⟨g, 0, none⟩), .int .i64 8] ?_; (with_reducible refine (spec_l1Below.calls k g s0_0 t170 t171 8 t173 t174 t175 w0 _ ?side1 ?side2 A3.out).mono ?_); (case side1 => repeat (first | (with_reducible first | exact HI0.out | apply IsS68.alloc | apply IsS68.drewN | apply IsS68.drew | apply IsS68.set_1 | apply IsS68.set_2 | refine IsS68.far ?_ NB0_163.out _ | refine IsS68.far ?_ NB0_172.out _) | exact HI0.out)); (case side2 => repeat (first | (with_reducible first | exact HB.out | apply below_alloc | apply pw_below_drewN | apply below_drew1 | refine below_set ?_ (IsS68.ge HI0.out) | refine below_set ?_ GE163.out | refine below_set ?_ GE172.out) | exact HB.out)); rintro e w30 ⟨rfl, hi, hb, hk⟩; refine ⟨_, rfl, ?_⟩; replace BK163 := zA (KeepBut.blk hk (g' := gb163) (o := .cells #[.int .i64 0, .int .i64 0, .int .i64 0, .slice none 0 0] 26 (0, 0)) (zK BK163.out) NB163_0.out (by simp)); replace HO169 := zA (Kd.R_mono (Kd.R_keep (IsS68.apart (show IsS68 w0 _ g s0_0 t170 t171 from by repeat (first | (with_reducible first | exact HI0.out | apply IsS68.alloc | apply IsS68.drewN | apply IsS68.drew | apply IsS68.set_1 | apply IsS68.set_2 | refine IsS68.far ?_ NB0_163.out _ | refine IsS68.far ?_ NB0_172.out _) | exact HI0.out)) (zR (Kd.R_mono (Kd.R_far (p := ⟨gb172, 3, none⟩) (Kd.R_far (p := ⟨gb172, 2, none⟩) (Kd.R_far (p := ⟨gb172, 1, none⟩) (Kd.R_far (p := ⟨gb172, 0, none⟩) (Kd.R_types HO169.out BK172.out (by decide)) (fun _ hk => hk.2) (.int .i64 t164)) (fun _ hk => hk.2) (.int .i64 t165)) (fun _ hk => hk.2) (.int .i64 t166)) (fun _ hk => hk.2) (.slice Ao29 t167.length co29)) (fun _ h_ => h_.1))) (by decide)) hk (fun _ h => h.2)) (fun _ h => h.1)); replace BK172 := zA (KeepBut.blk hk (g' := gb172) (o := .cells #[.int .i64 t164, .int .i64 t165, .int .i64 t166, .slice Ao29 t167.length co29] 26 (0, 0)) (by (with_reducible repeat (first | refine blk_drewN ?_ _ | refine blk_drew ?_ | refine blk_alloc ?_ _)); refine blk_put (cs := #[.int .i64 t164, .int .i64 t165, .int .i64 t166, .slice none 0 0]) ?_ 3 _ rfl; (with_reducible repeat (first | refine blk_drewN ?_ _ | refine blk_drew ?_ | refine blk_alloc ?_ _)); refine blk_put (cs := #[.int .i64 t164, .int .i64 t165, .int .i64 0, .slice none 0 0]) ?_ 2 _ rfl; (with_reducible repeat (first | refine blk_drewN ?_ _ | refine blk_drew ?_ | refine blk_alloc ?_ _)); refine blk_put (cs := #[.int .i64 t164, .int .i64 0, .int .i64 0, .slice none 0 0]) ?_ 1 _ rfl; (with_reducible repeat (first | refine blk_drewN ?_ _ | refine blk_drew ?_ | refine blk_alloc ?_ _)); refine blk_put (cs := #[.int .i64 0, .int .i64 0, .int .i64 0, .slice none 0 0]) ?_ 0 _ rfl; (with_reducible repeat (first | refine blk_drewN ?_ _ | refine blk_drew ?_ | refine blk_alloc ?_ _)); exact BK172.out) NB172_0.out (by simp)); replace HK := zA (KeepBut.trans (zQ HK.out) hk (.inl rfl)); replace HB := zA (hb); replace HI0 := zA (hi); (try clear hb hk hi)) | ((with_reducible refine gate_dst (N := 17) rfl ?_); refine Kd.R_lit (Kd.int .i64) _ 3 ?hg (N := 17) ?hd (xs := ([(-1), 9999, 10000] : List Int)) (inner := [.int .i64 (-1), .int .i64 9999, .int .i64 10000]) (ok := fun _ => True) (okp := fun _ => True) ?hr ?hp (fun _ hk => hk) trivial (Below.refl _ _) (Nat.le_refl _) (by simp) ?_; (case hd => rfl); (case hg => rfl); (case hr => first | (go_simp; done) | (go_simp; rfl)); (case hp => exact (Reps.one (show Kd.M (Kd.int .i64) _ _ _ (-1) [.int .i64 (-1)] from rfl) (Reps.one (show Kd.M (Kd.int .i64) _ _ _ 9999 [.int .i64 9999] from rfl) (Reps.one (show Kd.M (Kd.int .i64) _ _ _ 10000 [.int .i64 10000] from rfl) (Reps.none _ _))))); intro v183 w31 ho32 hb hg_ hnew_; clear hg_ hnew_; (first | rw [← Ny182.out] at ho32 | (simp only [Int.reduceToNat] at ho32; rw [← Ny182.out] at ho32)); replace HO169 := zr HO169 hb; have HO184 := zA (Kd.R_lower ho32 (keep_size (w := w) (g := g) (row := none) (zQ HK.out))); replace BK163 := zb BK163 hb; replace BK172 := zb BK172 hb; replace HK := zA (KeepBut.trans (zQ HK.out) (KeepBut.of_below hb g none) (.inl rfl)); replace HB := zA (below_step (zX HB.out (IsS68.ge HI0.out)) hb); replace HI0 := zA (IsS68.below (by repeat (first | (with_reducible first | exact HI0.out | apply IsS68.alloc | apply IsS68.drewN | apply IsS68.drew | apply IsS68.set_1 | apply IsS68.set_2 | refine IsS68.far ?_ NB0_163.out _ | refine IsS68.far ?_ NB0_172.out _) | exact HI0.out)) hb); clear hb ho32; obtain ⟨Ao33, co33, eo33⟩ := Kd.R_slice HO184.out; subst eo33) | ((with_reducible refine zq 56 ?_); refine zg (some 18) Tryd.func56 #[.pointer (some ⟨g, 0, none⟩), .slice Ao33 y182.length co33] ?_; (with_reducible refine (spec_l1Int.calls k g s0_0 t174 t175 _ _ y182 t185 t186 t187 w0 _ ?side1 ?side2 ?side3 ?side4 ?side5 A22.out).mono ?_); (case side1 => repeat (first | (with_reducible first | exact HI0.out | apply IsS68.alloc | apply IsS68.drewN | apply IsS68.drew | apply IsS68.set_1 | apply IsS68.set_2 | refine IsS68.far ?_ NB0_163.out _ | refine IsS68.far ?_ NB0_172.out _) | exact HI0.out)); (case side2 => repeat (first | (with_reducible first | exact HB.out | apply below_alloc | apply pw_below_drewN | apply below_drew1 | refine below_set ?_ (IsS68.ge HI0.out) | refine below_set ?_ GE163.out | refine below_set ?_ GE172.out) | exact HB.out)); (case side3 => repeat (first | exact (Kd.R_reads' HO184.out).2.2 | (with_reducible refine Kd.C_alloc ?_ _) | (with_reducible refine Kd.C_drewN ?_ _) | (with_reducible refine Kd.C_drew ?_))); (case side4 => exact (Kd.R_reads' HO184.out).2.1); (case side5 => exact far_slice (IsS68.own_ne HI0.out HO184.out (by decide))); rintro e w34 ⟨rfl, hi, hb, hk⟩; refine ⟨_, rfl, ?_⟩; replace BK163 := zA (KeepBut.blk hk (g' := gb163) (o := .cells #[.int .i64 0, .int .i64 0, .int .i64 0, .slice none 0 0] 26 (0, 0)) (zK BK163.out) NB163_0.out (by simp)); replace HO169 := zA (Kd.R_mono (Kd.R_keep (IsS68.apart (show IsS68 w0 _ g s0_0 t174 t175 from by repeat (first | (with_reducible first | exact HI0.out | apply IsS68.alloc | apply IsS68.drewN | apply IsS68.drew | apply IsS68.set_1 | apply IsS68.set_2 | refine IsS68.far ?_ NB0_163.out _ | refine IsS68.far ?_ NB0_172.out _) | exact HI0.out)) (zR HO169.out) (by decide)) hk (fun _ h => h.2)) (fun _ h => h.1)); replace BK172 := zA (KeepBut.blk hk (g' := gb172) (o := .cells #[.int .i64 t164, .int .i64 t165, .int .i64 t166, .slice Ao29 t167.length co29] 26 (0, 0)) (zK BK172.out) NB172_0.out (by simp)); replace HO184 := zA (Kd.R_mono (Kd.R_keep (IsS68.apart (show IsS68 w0 _ g s0_0 t174 t175 from by repeat (first | (with_reducible first | exact HI0.out | apply IsS68.alloc | apply IsS68.drewN | apply IsS68.drew | apply IsS68.set_1 | apply IsS68.set_2 | refine IsS68.far ?_ NB0_163.out _ | refine IsS68.far ?_ NB0_172.out _) | exact HI0.out)) (zR HO184.out) (by decide)) hk (fun _ h => h.2)) (fun _ h => h.1)); replace HK := zA (KeepBut.trans (zQ HK.out) hk (.inl rfl)); replace HB := zA (hb); replace HI0 := zA (hi); (try clear hb hk hi); obtain ⟨hcz35_0, hcz35_1, hcz35_2, hcz35_3, hfz35_0, hfz35_1, hfz35_2, hfz35_3⟩ := ze4 BK172.out; have hnb36 := NB163_0.out; have hnc36 := NB0_163.out; obtain ⟨hcz37_0, hcz37_1, hcz37_2, hcz37_3, hfz37_0, hfz37_1, hfz37_2, hfz37_3⟩ := ze4 BK163.out))
   refine bodyPost_ret (results_cell_row rfl _ _ gb163 26 #[.int .i64 t164, .int .i64 t165, .int .i64 t185, .slice Ao29 t167.length co29] (0, 0) _ rfl (by (with_reducible repeat (first | refine blk_drewN ?_ _ | refine blk_drew ?_ | refine blk_alloc ?_ _)); refine blk_put (cs := #[.int .i64 t164, .int .i64 t165, .int .i64 t185, .slice none 0 0]) ?_ 3 _ rfl; (with_reducible repeat (first | refine blk_drewN ?_ _ | refine blk_drew ?_ | refine blk_alloc ?_ _)); refine blk_put (cs := #[.int .i64 t164, .int .i64 t165, .int .i64 0, .slice none 0 0]) ?_ 2 _ rfl; (with_reducible repeat (first | refine blk_drewN ?_ _ | refine blk_drew ?_ | refine blk_alloc ?_ _)); refine blk_put (cs := #[.int .i64 t164, .int .i64 0, .int .i64 0, .slice none 0 0]) ?_ 1 _ rfl; (with_reducible repeat (first | refine blk_drewN ?_ _ | refine blk_drew ?_ | refine blk_alloc ?_ _)); refine blk_put (cs := #[.int .i64 0, .int .i64 0, .int .i64 0, .slice none 0 0]) ?_ 0 _ rfl; (with_reducible repeat (first | refine blk_drewN ?_ _ | refine blk_drew ?_ | refine blk_alloc ?_ _)); refine blk_far ?_ NB163_172.out _; (with_reducible repeat (first | refine blk_drewN ?_ _ | refine blk_drew ?_ | refine blk_alloc ?_ _)); exact BK163.out) Tryd.underlying26 rfl (by kernel_rfl)) rfl ?_
   exact ⟨_, zE, by (with_reducible repeat (first | apply Kd.R_alloc | apply Kd.R_drewN | apply Kd.R_drew)); exact Kd.R_mono (Kd.R_far (p := ⟨gb163, 3, none⟩) (Kd.R_far (p := ⟨gb163, 2, none⟩) (Kd.R_far (p := ⟨gb163, 1, none⟩) (Kd.R_far (p := ⟨gb163, 0, none⟩) (Kd.R_far (p := ⟨gb172, 2, none⟩) (Kd.R_types (Kd.R_types HO169.out BK172.out (by decide)) BK163.out (by decide)) (fun _ hk => hk.1.2) (.int .i64 t185)) (fun _ hk => hk.2) (.int .i64 t164)) (fun _ hk => hk.2) (.int .i64 t165)) (fun _ hk => hk.2) (.int .i64 t185)) (fun _ hk => hk.2) (.slice Ao29 t167.length co29)) (fun _ hk => trivial), by repeat (first | (with_reducible first | exact HI0.out | apply IsS68.alloc | apply IsS68.drewN | apply IsS68.drew | apply IsS68.set_1 | apply IsS68.set_2 | refine IsS68.far ?_ NB0_163.out _ | refine IsS68.far ?_ NB0_172.out _) | exact HI0.out), zX HB.out (IsS68.ge HI0.out), zQ HK.out⟩
  ·rw [if_neg c21] at H
   have c21b0 : (t173 == 1) = false := beq_eq_false_iff_ne.mpr c21
   have c21b1 : (t173 != 1) = true := bne_iff_ne.mpr c21
   by_cases c38 : t173 = 2
   ·rw [if_pos c38] at H
    have c38b0 : (t173 == 2) = true := beq_iff_eq.mpr c38
    have c38b1 : (t173 != 2) = false := bne_eq_false_iff_eq.mpr c38
    clear c38
    obtain ⟨y188, hy188⟩ : ∃ y_ : List ByteArray, y_ = (([(⟨#[]⟩ : ByteArray), (⟨#[48, 49]⟩ : ByteArray), (⟨#[110, 105, 110, 101, 45, 98, 121, 116, 101]⟩ : ByteArray), (⟨#[97, 95]⟩ : ByteArray), (⟨#[48, 48]⟩ : ByteArray), (⟨#[101, 105, 103, 104, 116, 45, 98, 121]⟩ : ByteArray)] : List ByteArray)) := ⟨_, rfl⟩
    replace H : ((spec_l1Str.f k s0_0 t174 t175 y188).bind fun bt191 => (if t167.length < 8796093022208 then (some (t164, t165, t166, (t167 ++ [bt191.1]), bt191.2.1, bt191.2.2)) else (none))) = some (r1, r2, r3, r4, r5, r6) := by first | (rw [hy188]; with_reducible exact H) | (have H2_ := (Option.bind_some _ _).symm.trans H; rw [hy188]; with_reducible exact H2_) | (have H2_ := (Option.bind_some _ _).symm.trans H; with_reducible exact H2_) | with_reducible exact H | (rw [hy188]; exact H) | exact H
    have Ny188 := Aside0.mk hy188
    clear hy188
    replace H := Option.bind_eq_some_iff.mp H
    obtain ⟨⟨t191, t192, t193⟩, A390, H⟩ := H
    try dsimp only at H
    have A39 := Aside0.mk A390
    clear A390
    by_cases c40 : t167.length < 8796093022208
    ·rw [if_pos c40] at H
     have LMc40 := Aside0.mk c40
     clear c40
     obtain ⟨y194, hy194⟩ : ∃ y_ : List ByteArray, y_ = (t167 ++ [t191]) := ⟨_, rfl⟩
     replace H : (some (t164, t165, t166, y194, t192, t193)) = some (r1, r2, r3, r4, r5, r6) := by first | (rw [hy194]; with_reducible exact H) | (have H2_ := (Option.bind_some _ _).symm.trans H; rw [hy194]; with_reducible exact H2_) | (have H2_ := (Option.bind_some _ _).symm.trans H; with_reducible exact H2_) | with_reducible exact H | (rw [hy194]; exact H) | exact H
     have Ny194 := Aside0.mk hy194
     clear hy194
     simp only [Option.some.injEq, Prod.mk.injEq] at H
     obtain ⟨rfl, rfl, rfl, rfl, rfl, rfl⟩ := H
     go_enter Tryd.func27, Tryd.ntmps27
     try go_wp2_with (first | ((with_reducible refine zd 2 ?_); refine ze 2 26 #[.int .i64 0, .int .i64 0, .int .i64 0, .slice none 0 0] ?_; intro gb163 hg w41 hbox hb; replace HB := zA (below_step (zX HB.out (IsS68.ge HI0.out)) hb); have BK163 := zA (hbox); have GW163 := zA ((by rw [hg]; exact (keep_size (w := w) (g := g) (row := none) (zQ HK.out)) : w.heap.size ≤ gb163)); have GE163 := zA ((Nat.le_trans HW0.out (by rw [hg]; exact (keep_size (w := w) (g := g) (row := none) (zQ HK.out)) : w.heap.size ≤ gb163) : w0.heap.size ≤ gb163)); replace HK := zA (KeepBut.trans (zQ HK.out) (KeepBut.of_below hb g none) (.inl rfl)); have NB0_163 := zA ((by rw [hg]; exact Nat.ne_of_lt (IsS68.lt (show IsS68 w0 _ g s0_0 s0_1 s0_2 from by repeat (first | (with_reducible first | exact HI0.out | apply IsS68.alloc | apply IsS68.drewN | apply IsS68.drew | apply IsS68.set_1 | apply IsS68.set_2) | exact HI0.out))) : g ≠ gb163)); have NB163_0 := zA ((by rw [hg]; exact Nat.ne_of_gt (IsS68.lt (show IsS68 w0 _ g s0_0 s0_1 s0_2 from by repeat (first | (with_reducible first | exact HI0.out | apply IsS68.alloc | apply IsS68.drewN | apply IsS68.drew | apply IsS68.set_1 | apply IsS68.set_2) | exact HI0.out))) : gb163 ≠ g)); replace HI0 := zA (IsS68.below (by repeat (first | (with_reducible first | exact HI0.out | apply IsS68.alloc | apply IsS68.drewN | apply IsS68.drew | apply IsS68.set_1 | apply IsS68.set_2) | exact HI0.out)) hb); clear hb hbox hg) | ((with_reducible refine zq 31 ?_); refine zg (some 5) Tryd.func31 #[.pointer (some ⟨g, 0, none⟩)] ?_; (with_reducible refine (spec_l3Draw.calls k g s0_0 s0_1 s0_2 t164 t165 t166 t167 t170 t171 w0 _ ?side1 ?side2 A2.out).mono ?_); (case side1 => repeat (first | (with_reducible first | exact HI0.out | apply IsS68.alloc | apply IsS68.drewN | apply IsS68.drew | apply IsS68.set_1 | apply IsS68.set_2 | refine IsS68.far ?_ NB0_163.out _) | exact HI0.out)); (case side2 => repeat (first | (with_reducible first | exact HB.out | apply below_alloc | apply pw_below_drewN | apply below_drew1 | refine below_set ?_ (IsS68.ge HI0.out) | refine below_set ?_ GE163.out) | exact HB.out)); rintro e w42 ⟨v168, rfl, ho0, hi, hb, hk⟩; refine ⟨_, rfl, ?_⟩; replace BK163 := zA (KeepBut.blk hk (g' := gb163) (o := .cells #[.int .i64 0, .int .i64 0, .int .i64 0, .slice none 0 0] 26 (0, 0)) (zK BK163.out) NB163_0.out (by simp)); have HO169 := zA (Kd.R_lower ho0 (keep_size (w := w) (g := g) (row := none) (zQ HK.out))); replace HK := zA (KeepBut.trans (zQ HK.out) hk (.inl rfl)); replace HB := zA (hb); replace HI0 := zA (hi); (try clear hb hk hi ho0)) | ((with_reducible refine zd 3 ?_); refine ze 3 26 #[.int .i64 0, .int .i64 0, .int .i64 0, .slice none 0 0] ?_; intro gb172 hg w43 hbox hb; replace HO169 := zr HO169 hb; replace HB := zA (below_step (zX HB.out (IsS68.ge HI0.out)) hb); have BK172 := zA (hbox); have GW172 := zA ((by rw [hg]; exact (keep_size (w := w) (g := g) (row := none) (zQ HK.out)) : w.heap.size ≤ gb172)); have GE172 := zA ((Nat.le_trans HW0.out (by rw [hg]; exact (keep_size (w := w) (g := g) (row := none) (zQ HK.out)) : w.heap.size ≤ gb172) : w0.heap.size ≤ gb172)); replace HK := zA (KeepBut.trans (zQ HK.out) (KeepBut.of_below hb g none) (.inl rfl)); have NB163_172 := zA (zL hg (zK BK163.out)); have NB172_163 := zA (zJ hg (zK BK163.out)); replace BK163 := zb BK163 hb; have NB0_172 := zA ((by rw [hg]; exact Nat.ne_of_lt (IsS68.lt (show IsS68 w0 _ g s0_0 t170 t171 from by repeat (first | (with_reducible first | exact HI0.out | apply IsS68.alloc | apply IsS68.drewN | apply IsS68.drew | apply IsS68.set_1 | apply IsS68.set_2 | refine IsS68.far ?_ NB0_163.out _) | exact HI0.out))) : g ≠ gb172)); have NB172_0 := zA ((by rw [hg]; exact Nat.ne_of_gt (IsS68.lt (show IsS68 w0 _ g s0_0 t170 t171 from by repeat (first | (with_reducible first | exact HI0.out | apply IsS68.alloc | apply IsS68.drewN | apply IsS68.drew | apply IsS68.set_1 | apply IsS68.set_2 | refine IsS68.far ?_ NB0_163.out _) | exact HI0.out))) : gb172 ≠ g)); replace HI0 := zA (IsS68.below (by repeat (first | (with_reducible first | exact HI0.out | apply IsS68.alloc | apply IsS68.drewN | apply IsS68.drew | apply IsS68.set_1 | apply IsS68.set_2 | refine IsS68.far ?_ NB0_163.out _) | exact HI0.out)) hb); clear hb hbox hg; have hnb44 := NB172_163.out; have hnc44 := NB163_172.out; have hnb45 := NB172_0.out; have hnc45 := NB0_172.out; obtain ⟨hcz46_0, hcz46_1, hcz46_2, hcz46_3, hfz46_0, hfz46_1, hfz46_2, hfz46_3⟩ := ze4 BK172.out; obtain ⟨Ao47, co47, eo47⟩ := Kd.R_slice HO169.out; subst eo47) | ((with_reducible refine zq 32 ?_); refine zg (some 7) Tryd.func32 #[.pointer (some ⟨g, 0, none⟩), .int .i64 8] ?_; (with_reducible refine (spec_l1Below.calls k g s0_0 t170 t171 8 t173 t174 t175 w0 _ ?side1 ?side2 A3.out).mono ?_); (case side1 => repeat (first | (with_reducible first | exact HI0.out | apply IsS68.alloc | apply IsS68.drewN | apply IsS68.drew | apply IsS68.set_1 | apply IsS68.set_2 | refine IsS68.far ?_ NB0_163.out _ | refine IsS68.far ?_ NB0_172.out _) | exact HI0.out)); (case side2 => repeat (first | (with_reducible first | exact HB.out | apply below_alloc | apply pw_below_drewN | apply below_drew1 | refine below_set ?_ (IsS68.ge HI0.out) | refine below_set ?_ GE163.out | refine below_set ?_ GE172.out) | exact HB.out)); rintro e w48 ⟨rfl, hi, hb, hk⟩; refine ⟨_, rfl, ?_⟩; replace BK163 := zA (KeepBut.blk hk (g' := gb163) (o := .cells #[.int .i64 0, .int .i64 0, .int .i64 0, .slice none 0 0] 26 (0, 0)) (zK BK163.out) NB163_0.out (by simp)); replace HO169 := zA (Kd.R_mono (Kd.R_keep (IsS68.apart (show IsS68 w0 _ g s0_0 t170 t171 from by repeat (first | (with_reducible first | exact HI0.out | apply IsS68.alloc | apply IsS68.drewN | apply IsS68.drew | apply IsS68.set_1 | apply IsS68.set_2 | refine IsS68.far ?_ NB0_163.out _ | refine IsS68.far ?_ NB0_172.out _) | exact HI0.out)) (zR (Kd.R_mono (Kd.R_far (p := ⟨gb172, 3, none⟩) (Kd.R_far (p := ⟨gb172, 2, none⟩) (Kd.R_far (p := ⟨gb172, 1, none⟩) (Kd.R_far (p := ⟨gb172, 0, none⟩) (Kd.R_types HO169.out BK172.out (by decide)) (fun _ hk => hk.2) (.int .i64 t164)) (fun _ hk => hk.2) (.int .i64 t165)) (fun _ hk => hk.2) (.int .i64 t166)) (fun _ hk => hk.2) (.slice Ao47 t167.length co47)) (fun _ h_ => h_.1))) (by decide)) hk (fun _ h => h.2)) (fun _ h => h.1)); replace BK172 := zA (KeepBut.blk hk (g' := gb172) (o := .cells #[.int .i64 t164, .int .i64 t165, .int .i64 t166, .slice Ao47 t167.length co47] 26 (0, 0)) (by (with_reducible repeat (first | refine blk_drewN ?_ _ | refine blk_drew ?_ | refine blk_alloc ?_ _)); refine blk_put (cs := #[.int .i64 t164, .int .i64 t165, .int .i64 t166, .slice none 0 0]) ?_ 3 _ rfl; (with_reducible repeat (first | refine blk_drewN ?_ _ | refine blk_drew ?_ | refine blk_alloc ?_ _)); refine blk_put (cs := #[.int .i64 t164, .int .i64 t165, .int .i64 0, .slice none 0 0]) ?_ 2 _ rfl; (with_reducible repeat (first | refine blk_drewN ?_ _ | refine blk_drew ?_ | refine blk_alloc ?_ _)); refine blk_put (cs := #[.int .i64 t164, .int .i64 0, .int .i64 0, .slice none 0 0]) ?_ 1 _ rfl; (with_reducible repeat (first | refine blk_drewN ?_ _ | refine blk_drew ?_ | refine blk_alloc ?_ _)); refine blk_put (cs := #[.int .i64 0, .int .i64 0, .int .i64 0, .slice none 0 0]) ?_ 0 _ rfl; (with_reducible repeat (first | refine blk_drewN ?_ _ | refine blk_drew ?_ | refine blk_alloc ?_ _)); exact BK172.out) NB172_0.out (by simp)); replace HK := zA (KeepBut.trans (zQ HK.out) hk (.inl rfl)); replace HB := zA (hb); replace HI0 := zA (hi); (try clear hb hk hi)))
     replace HO169 := zA (Kd.R_drew HO169.out)
     replace BK163 := zA (blk_drew BK163.out)
     replace BK172 := zA (blk_drew BK172.out)
     replace HI0 := zA (IsS68.drew HI0.out)
     replace HK := zA (keep_drew HK.out)
     replace HB := zA (below_drew1 HB.out)
     refine start_ (n := 9) (S := fun w' => w'.cell? ⟨gb172, 0, none⟩ = some (.int .i64 t164) ∧ w'.cell? ⟨gb172, 1, none⟩ = some (.int .i64 t165) ∧ w'.cell? ⟨gb172, 2, none⟩ = some (.int .i64 t166) ∧ w'.cell? ⟨gb172, 3, none⟩ = some (.slice Ao47 t167.length co47)) (ds := [8]) (Array.replicate 9 false) (by kernel_rfl) rfl rfl ⟨(blk_cell BK172.out 0).trans rfl, (blk_cell BK172.out 1).trans rfl, (blk_cell BK172.out 2).trans rfl, (blk_cell BK172.out 3).trans rfl⟩ (fun hHeld => ?_); refine with_tabW spec_l3Any.tab8 spec_l3Any.bits8 (fun HT_ HW_ => ?_)
     generalize w48.drew = w49 at HO169 BK163 BK172 HI0 HK HB hHeld ⊢
     refine zp 0 22 ?_
     refine zp 2 24 ?_
     refine zt 1 23 ?_
     refine zo 3 (some 25) fun K hK => ?_
     refine Kd.R_lit_step Kd.string _ 9 ?hg (N := 25) ?hd (xs := ([(⟨#[]⟩ : ByteArray), (⟨#[48, 49]⟩ : ByteArray), (⟨#[110, 105, 110, 101, 45, 98, 121, 116, 101]⟩ : ByteArray), (⟨#[97, 95]⟩ : ByteArray), (⟨#[48, 48]⟩ : ByteArray), (⟨#[101, 105, 103, 104, 116, 45, 98, 121]⟩ : ByteArray)] : List ByteArray)) (inner := [.string (⟨#[]⟩ : ByteArray), .string (⟨#[48, 49]⟩ : ByteArray), .string (⟨#[110, 105, 110, 101, 45, 98, 121, 116, 101]⟩ : ByteArray), .string (⟨#[97, 95]⟩ : ByteArray), .string (⟨#[48, 48]⟩ : ByteArray), .string (⟨#[101, 105, 103, 104, 116, 45, 98, 121]⟩ : ByteArray)]) (ok := fun _ => True) (okp := fun _ => True) ?hr ?hp (fun _ hk => hk) trivial (Below.refl _ _) (Nat.le_refl _) (by simp) ?_; (case hd => rfl); (case hg => rfl); (case hr => first | (go_simp; done) | (go_simp; rfl)); (case hp => exact (Reps.one (show Kd.M Kd.string _ _ _ (⟨#[]⟩ : ByteArray) [.string (⟨#[]⟩ : ByteArray)] from rfl) (Reps.one (show Kd.M Kd.string _ _ _ (⟨#[48, 49]⟩ : ByteArray) [.string (⟨#[48, 49]⟩ : ByteArray)] from rfl) (Reps.one (show Kd.M Kd.string _ _ _ (⟨#[110, 105, 110, 101, 45, 98, 121, 116, 101]⟩ : ByteArray) [.string (⟨#[110, 105, 110, 101, 45, 98, 121, 116, 101]⟩ : ByteArray)] from rfl) (Reps.one (show Kd.M Kd.string _ _ _ (⟨#[97, 95]⟩ : ByteArray) [.string (⟨#[97, 95]⟩ : ByteArray)] from rfl) (Reps.one (show Kd.M Kd.string _ _ _ (⟨#[48, 48]⟩ : ByteArray) [.string (⟨#[48, 48]⟩ : ByteArray)] from rfl) (Reps.one (show Kd.M Kd.string _ _ _ (⟨#[101, 105, 103, 104, 116, 45, 98, 121]⟩ : ByteArray) [.string (⟨#[101, 105, 103, 104, 116, 45, 98, 121]⟩ : ByteArray)] from rfl) (Reps.none _ _))))))))
     intro v189 w50 ho51 hb hg_ hnew_
     clear hg_ hnew_
     (first | rw [← Ny188.out] at ho51 | (simp only [Int.reduceToNat] at ho51; rw [← Ny188.out] at ho51))
     have HO190 := zA (Kd.R_lower (Kd.R_new' ho51 (Kd.R_lt (zR HO169.out))) (keep_size (w := w) (g := g) (row := none) (zQ HK.out)))
     replace HO169 := zA (Kd.R_elder' (zR HO169.out) (Kd.R_base ho51) hb)
     replace BK163 := zb BK163 hb
     replace BK172 := zb BK172 hb
     replace HK := zA (KeepBut.trans (zQ HK.out) (KeepBut.of_below hb g none) (.inl rfl))
     replace HB := zA (below_step (zX HB.out (IsS68.ge HI0.out)) hb)
     replace HI0 := zA (IsS68.below (by repeat (first | (with_reducible first | exact HI0.out | apply IsS68.alloc | apply IsS68.drewN | apply IsS68.drew | apply IsS68.set_1 | apply IsS68.set_2 | refine IsS68.far ?_ NB0_163.out _ | refine IsS68.far ?_ NB0_172.out _) | exact HI0.out)) hb)
     clear hb ho51
     obtain ⟨Ao52, co52, eo52⟩ := Kd.R_slice HO190.out
     (first | subst eo52 | (injection eo52 with f1_ f2_ f3_; have f4_ := f1_.symm; have f5_ := f3_.symm; clear f1_ f2_ f3_; subst f4_; subst f5_))
     refine hK.out _ _ ⟨(blk_cell BK172.out 0).trans rfl, (blk_cell BK172.out 1).trans rfl, (blk_cell BK172.out 2).trans rfl, (blk_cell BK172.out 3).trans rfl⟩ (fun hHeld => ?_)
     clear hK K
     refine zn ?_
     refine zo 4 (some 26) fun K hK => ?_
     refine goes_ Tryd.func33 (by kernel_rfl) rfl #[.pointer (some ⟨g, 0, none⟩), .slice Ao52 y188.length co52] (by rfl) rfl rfl zM ?_
     with_reducible refine (spec_l1Str.calls k g s0_0 t174 t175 _ _ y188 t191 t192 t193 w0 _ ?side1 ?side2 ?side3 ?side4 ?side5 A39.out).mono ?_
     (case side1 => repeat (first | (with_reducible first | exact HI0.out | apply IsS68.alloc | apply IsS68.drewN | apply IsS68.drew | apply IsS68.set_1 | apply IsS68.set_2 | refine IsS68.far ?_ NB0_163.out _ | refine IsS68.far ?_ NB0_172.out _) | exact HI0.out))
     (case side2 => repeat (first | (with_reducible first | exact HB.out | apply below_alloc | apply pw_below_drewN | apply below_drew1 | refine below_set ?_ (IsS68.ge HI0.out) | refine below_set ?_ GE163.out | refine below_set ?_ GE172.out) | exact HB.out))
     (case side3 => repeat (first | exact (Kd.R_reads' HO190.out).2.2 | (with_reducible refine Kd.C_alloc ?_ _) | (with_reducible refine Kd.C_drewN ?_ _) | (with_reducible refine Kd.C_drew ?_)))
     (case side4 => exact (Kd.R_reads' HO190.out).2.1)
     (case side5 => exact far_slice (IsS68.own_ne HI0.out HO190.out (by decide)))
     rintro e w53 ⟨rfl, hi, hb, hk⟩
     refine ⟨_, rfl, ?_⟩
     replace BK163 := zA (KeepBut.blk hk (g' := gb163) (o := .cells #[.int .i64 0, .int .i64 0, .int .i64 0, .slice none 0 0] 26 (0, 0)) (zK BK163.out) NB163_0.out (by simp))
     replace HO169 := zA (Kd.R_mono (Kd.R_keep (IsS68.apart (show IsS68 w0 _ g s0_0 t174 t175 from by repeat (first | (with_reducible first | exact HI0.out | apply IsS68.alloc | apply IsS68.drewN | apply IsS68.drew | apply IsS68.set_1 | apply IsS68.set_2 | refine IsS68.far ?_ NB0_163.out _ | refine IsS68.far ?_ NB0_172.out _) | exact HI0.out)) (zR HO169.out) (by decide)) hk (fun _ h => h.2)) (fun _ h => h.1))
     replace BK172 := zA (KeepBut.blk hk (g' := gb172) (o := .cells #[.int .i64 t164, .int .i64 t165, .int .i64 t166, .slice Ao47 t167.length co47] 26 (0, 0)) (zK BK172.out) NB172_0.out (by simp))
     replace HO190 := zA (Kd.R_mono (Kd.R_keep (IsS68.apart (show IsS68 w0 _ g s0_0 t174 t175 from by repeat (first | (with_reducible first | exact HI0.out | apply IsS68.alloc | apply IsS68.drewN | apply IsS68.drew | apply IsS68.set_1 | apply IsS68.set_2 | refine IsS68.far ?_ NB0_163.out _ | refine IsS68.far ?_ NB0_172.out _) | exact HI0.out)) (zR HO190.out) (by decide)) hk (fun _ h => h.2)) (fun _ h => h.1))
     replace HK := zA (KeepBut.trans (zQ HK.out) hk (.inl rfl))
     replace HB := zA (hb)
     replace HI0 := zA (hi)
     (try clear hb hk hi)
     refine hK.out _ _ ⟨(blk_cell BK172.out 0).trans rfl, (blk_cell BK172.out 1).trans rfl, (blk_cell BK172.out 2).trans rfl, (blk_cell BK172.out 3).trans rfl⟩ (fun hHeld => ?_)
     clear hK K
     refine zn ?_
     refine zo 5 (some 27) fun K hK => ?_
     refine value_ (w1 := ?_) (v := ?_) (by rfl) rfl ?_ ?_
     rotate_left 2
     ·go_simp
      constructor
      ·rfl
      ·rfl
     refine hK.out _ _ ⟨(blk_cell (blk_alloc BK172.out _) 0).trans rfl, (blk_cell (blk_alloc BK172.out _) 1).trans rfl, (blk_cell (blk_alloc BK172.out _) 2).trans rfl, (blk_cell (blk_alloc BK172.out _) 3).trans rfl⟩ (fun hHeld => ?_)
     clear hK K
     refine zn ?_
     refine zo 6 (some 28) fun K hK => ?_
     refine Kd.R_append_step Kd.string w.heap.size (by rfl) (.tmp 23) (.tmp 27) 24 9 (.string ⟨#[]⟩) 16 rfl Tryd.underlying24 info9 rfl (by decide) (by omega) (.slice Ao47 t167.length co47) t167 t191 [.string t191] (fun k_ => some k_ ≠ (.slice Ao52 y188.length co52 : Value).ownBlock) (fun _ => False) rfl rfl ?aP (fun _ hk => hk.elim) ?aF ?aO (Below.refl _ _) ?aS ?aL ?_
     (case aP => exact rfl)
     (case aF => exact (fun k_ hk => Kd.fresh' (Kd.R_lt (zR HO190.out)) k_ hk))
     (case aO => exact (by (with_reducible repeat (first | apply Kd.R_alloc | apply Kd.R_drewN | apply Kd.R_drew)); exact Kd.R_mono HO169.out (fun _ hk => hk.2)))
     (case aS => exact (keep_size (w := w) (g := g) (row := none) (zQ HK.out)))
     (case aL => have := LMc40.out; omega)
     intro v195 w54 ho hb hg hat
     rw [← Ny194.out] at ho
     replace BK163 := zA (blk_grown (g := gb163) (o := .cells #[.int .i64 0, .int .i64 0, .int .i64 0, .slice none 0 0] 26 (0, 0)) (zK BK163.out) hg (Kd.R_ne HO169.out BK163.out (by decide)))
     replace BK172 := zA (blk_grown (g := gb172) (o := .cells #[.int .i64 t164, .int .i64 t165, .int .i64 t166, .slice Ao47 t167.length co47] 26 (0, 0)) (zK BK172.out) hg (Kd.R_ne HO169.out BK172.out (by decide)))
     replace HO190 := zA (Kd.R_after (ok := (fun _ => True)) (zR HO190.out) hg hat)
     replace HB := zA (below_weaken (zX HB.out (IsS68.ge HI0.out)) HL.out hb)
     replace HI0 := zA (IsS68.grown (by repeat (first | (with_reducible first | exact HI0.out | apply IsS68.alloc | apply IsS68.drewN | apply IsS68.drew | apply IsS68.set_1 | apply IsS68.set_2 | refine IsS68.far ?_ NB0_163.out _ | refine IsS68.far ?_ NB0_172.out _) | exact HI0.out)) hg (IsS68.own_ne HI0.out HO169.out (by decide)))
     replace HK := zA (KeepBut.trans (zQ HK.out) (KeepBut.of_grown hg g) (Kd.R_base2 HO169.out))
     have HO196 := zA (ho)
     clear HO169
     clear ho hb hg hat
     obtain ⟨Ao55, co55, eo55⟩ := Kd.R_slice HO196.out
     (first | subst eo55 | (injection eo55 with f1_ f2_ f3_; have f4_ := f1_.symm; have f5_ := f3_.symm; clear f1_ f2_ f3_; subst f4_; subst f5_))
     refine hK.out _ _ ⟨(blk_cell BK172.out 0).trans rfl, (blk_cell BK172.out 1).trans rfl, (blk_cell BK172.out 2).trans rfl, (blk_cell BK172.out 3).trans rfl⟩ (fun hHeld => ?_)
     clear hK K
     refine zn ?_
     refine zp 7 29 ?_
     refine last_ (i := 8) (N := none) #[true, true, true, true, true, true, true, true, true] rfl rfl (one_of HT_.out (by kernel_rfl)) (by decide) (fun K hK => ?_)
     have hs56 : w54.cell? ⟨gb172, 3, none⟩ = some (.slice Ao47 t167.length co47) := (blk_cell BK172.out 3).trans rfl
     have hfs56 := zF BK172.out 3
     have hns56_0 := NB163_172.out
     have hms56_0 := NB172_163.out
     refine skip_ (w1 := ?_) (by rfl) rfl ?_ ?_
     rotate_left
     ·go_simp
      rfl
     refine hK.out _ _ ?_
     clear hK K
     refine done_ (done_of HT_.out (by kernel_rfl)) ?_
     obtain ⟨hcz57_0, hcz57_1, hcz57_2, hcz57_3, hfz57_0, hfz57_1, hfz57_2, hfz57_3⟩ := ze4 BK172.out
     have hnb58 := NB163_0.out
     have hnc58 := NB0_163.out
     obtain ⟨hcz59_0, hcz59_1, hcz59_2, hcz59_3, hfz59_0, hfz59_1, hfz59_2, hfz59_3⟩ := ze4 BK163.out
     try go_wp2
     refine bodyPost_ret (results_cell_row rfl _ _ gb163 26 #[.int .i64 t164, .int .i64 t165, .int .i64 t166, .slice Ao55 y194.length co55] (0, 0) _ rfl (by (with_reducible repeat (first | refine blk_drewN ?_ _ | refine blk_drew ?_ | refine blk_alloc ?_ _)); refine blk_put (cs := #[.int .i64 t164, .int .i64 t165, .int .i64 t166, .slice none 0 0]) ?_ 3 _ rfl; (with_reducible repeat (first | refine blk_drewN ?_ _ | refine blk_drew ?_ | refine blk_alloc ?_ _)); refine blk_put (cs := #[.int .i64 t164, .int .i64 t165, .int .i64 0, .slice none 0 0]) ?_ 2 _ rfl; (with_reducible repeat (first | refine blk_drewN ?_ _ | refine blk_drew ?_ | refine blk_alloc ?_ _)); refine blk_put (cs := #[.int .i64 t164, .int .i64 0, .int .i64 0, .slice none 0 0]) ?_ 1 _ rfl; (with_reducible repeat (first | refine blk_drewN ?_ _ | refine blk_drew ?_ | refine blk_alloc ?_ _)); refine blk_put (cs := #[.int .i64 0, .int .i64 0, .int .i64 0, .slice none 0 0]) ?_ 0 _ rfl; (with_reducible repeat (first | refine blk_drewN ?_ _ | refine blk_drew ?_ | refine blk_alloc ?_ _)); refine blk_far ?_ NB163_172.out _; (with_reducible repeat (first | refine blk_drewN ?_ _ | refine blk_drew ?_ | refine blk_alloc ?_ _)); exact BK163.out) Tryd.underlying26 rfl (by kernel_rfl)) rfl ?_
     exact ⟨_, zE, by (with_reducible repeat (first | apply Kd.R_alloc | apply Kd.R_drewN | apply Kd.R_drew)); exact Kd.R_mono (Kd.R_far (p := ⟨gb163, 3, none⟩) (Kd.R_far (p := ⟨gb163, 2, none⟩) (Kd.R_far (p := ⟨gb163, 1, none⟩) (Kd.R_far (p := ⟨gb163, 0, none⟩) (Kd.R_far (p := ⟨gb172, 3, none⟩) (Kd.R_types (Kd.R_types HO196.out BK172.out (by decide)) BK163.out (by decide)) (fun _ hk => hk.1.2) (.slice Ao55 y194.length co55)) (fun _ hk => hk.2) (.int .i64 t164)) (fun _ hk => hk.2) (.int .i64 t165)) (fun _ hk => hk.2) (.int .i64 t166)) (fun _ hk => hk.2) (.slice Ao55 y194.length co55)) (fun _ hk => trivial), by repeat (first | (with_reducible first | exact HI0.out | apply IsS68.alloc | apply IsS68.drewN | apply IsS68.drew | apply IsS68.set_1 | apply IsS68.set_2 | refine IsS68.far ?_ NB0_163.out _ | refine IsS68.far ?_ NB0_172.out _) | exact HI0.out), zX HB.out (IsS68.ge HI0.out), zQ HK.out⟩
    ·rw [if_neg c40] at H
     exact absurd H (by simp)
   ·rw [if_neg c38] at H
    have c38b0 : (t173 == 2) = false := beq_eq_false_iff_ne.mpr c38
    have c38b1 : (t173 != 2) = true := bne_iff_ne.mpr c38
    by_cases c60 : t173 = 3
    ·rw [if_pos c60] at H
     have c60b0 : (t173 == 3) = true := beq_iff_eq.mpr c60
     have c60b1 : (t173 != 3) = false := bne_eq_false_iff_eq.mpr c60
     clear c60
     obtain ⟨y197, hy197⟩ : ∃ y_ : List ByteArray, y_ = (([(⟨#[97]⟩ : ByteArray), (⟨#[98]⟩ : ByteArray), (⟨#[99]⟩ : ByteArray), (⟨#[100]⟩ : ByteArray)] : List ByteArray)) := ⟨_, rfl⟩
     replace H : ((spec_l1Int.f k s0_0 t174 t175 (([3, 4] : List Int))).bind fun bt203 => (if 0 ≤ bt203.1 then (if bt203.1 ≤ (y197.length : Int) then (some (t164, t165, t166, (y197.take (bt203.1 : Int).toNat), bt203.2.1, bt203.2.2)) else (none)) else (none))) = some (r1, r2, r3, r4, r5, r6) := by first | (rw [hy197]; with_reducible exact H) | (have H2_ := (Option.bind_some _ _).symm.trans H; rw [hy197]; with_reducible exact H2_) | (have H2_ := (Option.bind_some _ _).symm.trans H; with_reducible exact H2_) | with_reducible exact H | (rw [hy197]; exact H) | exact H
     have Ny197 := Aside0.mk hy197
     clear hy197
     obtain ⟨y200, hy200⟩ : ∃ y_ : List Int, y_ = (([3, 4] : List Int)) := ⟨_, rfl⟩
     replace H : ((spec_l1Int.f k s0_0 t174 t175 y200).bind fun bt203 => (if 0 ≤ bt203.1 then (if bt203.1 ≤ (y197.length : Int) then (some (t164, t165, t166, (y197.take (bt203.1 : Int).toNat), bt203.2.1, bt203.2.2)) else (none)) else (none))) = some (r1, r2, r3, r4, r5, r6) := by first | (rw [hy200]; with_reducible exact H) | (have H2_ := (Option.bind_some _ _).symm.trans H; rw [hy200]; with_reducible exact H2_) | (have H2_ := (Option.bind_some _ _).symm.trans H; with_reducible exact H2_) | with_reducible exact H | (rw [hy200]; exact H) | exact H
     have Ny200 := Aside0.mk hy200
     clear hy200
     replace H := Option.bind_eq_some_iff.mp H
     obtain ⟨⟨t203, t204, t205⟩, A610, H⟩ := H
     try dsimp only at H
     have A61 := Aside0.mk A610
     clear A610
     by_cases c62 : 0 ≤ t203
     ·rw [if_pos c62] at H
      have c62b0 := eq_true c62
      have c62b1 := decide_eq_true c62
      clear c62
      by_cases c63 : t203 ≤ (y197.length : Int)
      ·rw [if_pos c63] at H
       have c63b0 := eq_true c63
       have c63b1 := decide_eq_true c63
       clear c63
       obtain ⟨y206, hy206⟩ : ∃ y_ : List ByteArray, y_ = (y197.take (t203 : Int).toNat) := ⟨_, rfl⟩
       replace H : (some (t164, t165, t166, y206, t204, t205)) = some (r1, r2, r3, r4, r5, r6) := by first | (rw [hy206]; with_reducible exact H) | (have H2_ := (Option.bind_some _ _).symm.trans H; rw [hy206]; with_reducible exact H2_) | (have H2_ := (Option.bind_some _ _).symm.trans H; with_reducible exact H2_) | with_reducible exact H | (rw [hy206]; exact H) | exact H
       have Ny206 := Aside0.mk hy206
       clear hy206
       simp only [Option.some.injEq, Prod.mk.injEq] at H
       obtain ⟨rfl, rfl, rfl, rfl, rfl, rfl⟩ := H
       go_enter Tryd.func27, Tryd.ntmps27
       go_wp2_with (first | ((with_reducible refine zd 2 ?_); refine ze 2 26 #[.int .i64 0, .int .i64 0, .int .i64 0, .slice none 0 0] ?_; intro gb163 hg w64 hbox hb; replace HB := zA (below_step (zX HB.out (IsS68.ge HI0.out)) hb); have BK163 := zA (hbox); have GW163 := zA ((by rw [hg]; exact (keep_size (w := w) (g := g) (row := none) (zQ HK.out)) : w.heap.size ≤ gb163)); have GE163 := zA ((Nat.le_trans HW0.out (by rw [hg]; exact (keep_size (w := w) (g := g) (row := none) (zQ HK.out)) : w.heap.size ≤ gb163) : w0.heap.size ≤ gb163)); replace HK := zA (KeepBut.trans (zQ HK.out) (KeepBut.of_below hb g none) (.inl rfl)); have NB0_163 := zA ((by rw [hg]; exact Nat.ne_of_lt (IsS68.lt (show IsS68 w0 _ g s0_0 s0_1 s0_2 from by repeat (first | (with_reducible first | exact HI0.out | apply IsS68.alloc | apply IsS68.drewN | apply IsS68.drew | apply IsS68.set_1 | apply IsS68.set_2) | exact HI0.out))) : g ≠ gb163)); have NB163_0 := zA ((by rw [hg]; exact Nat.ne_of_gt (IsS68.lt (show IsS68 w0 _ g s0_0 s0_1 s0_2 from by repeat (first | (with_reducible first | exact HI0.out | apply IsS68.alloc | apply IsS68.drewN | apply IsS68.drew | apply IsS68.set_1 | apply IsS68.set_2) | exact HI0.out))) : gb163 ≠ g)); replace HI0 := zA (IsS68.below (by repeat (first | (with_reducible first | exact HI0.out | apply IsS68.alloc | apply IsS68.drewN | apply IsS68.drew | apply IsS68.set_1 | apply IsS68.set_2) | exact HI0.out)) hb); clear hb hbox hg) | ((with_reducible refine zq 31 ?_); refine zg (some 5) Tryd.func31 #[.pointer (some ⟨g, 0, none⟩)] ?_; (with_reducible refine (spec_l3Draw.calls k g s0_0 s0_1 s0_2 t164 t165 t166 t167 t170 t171 w0 _ ?side1 ?side2 A2.out).mono ?_); (case side1 => repeat (first | (with_reducible first | exact HI0.out | apply IsS68.alloc | apply IsS68.drewN | apply IsS68.drew | apply IsS68.set_1 | apply IsS68.set_2 | refine IsS68.far ?_ NB0_163.out _) | exact HI0.out)); (case side2 => repeat (first | (with_reducible first | exact HB.out | apply below_alloc | apply pw_below_drewN | apply below_drew1 | refine below_set ?_ (IsS68.ge HI0.out) | refine below_set ?_ GE163.out) | exact HB.out)); rintro e w65 ⟨v168, rfl, ho0, hi, hb, hk⟩; refine ⟨_, rfl, ?_⟩; replace BK163 := zA (KeepBut.blk hk (g' := gb163) (o := .cells #[.int .i64 0, .int .i64 0, .int .i64 0, .slice none 0 0] 26 (0, 0)) (zK BK163.out) NB163_0.out (by simp)); have HO169 := zA (Kd.R_lower ho0 (keep_size (w := w) (g := g) (row := none) (zQ HK.out))); replace HK := zA (KeepBut.trans (zQ HK.out) hk (.inl rfl)); replace HB := zA (hb); replace HI0 := zA (hi); (try clear hb hk hi ho0)) | ((with_reducible refine zd 3 ?_); refine ze 3 26 #[.int .i64 0, .int .i64 0, .int .i64 0, .slice none 0 0] ?_; intro gb172 hg w66 hbox hb; replace HO169 := zr HO169 hb; replace HB := zA (below_step (zX HB.out (IsS68.ge HI0.out)) hb); have BK172 := zA (hbox); have GW172 := zA ((by rw [hg]; exact (keep_size (w := w) (g := g) (row := none) (zQ HK.out)) : w.heap.size ≤ gb172)); have GE172 := zA ((Nat.le_trans HW0.out (by rw [hg]; exact (keep_size (w := w) (g := g) (row := none) (zQ HK.out)) : w.heap.size ≤ gb172) : w0.heap.size ≤ gb172)); replace HK := zA (KeepBut.trans (zQ HK.out) (KeepBut.of_below hb g none) (.inl rfl)); have NB163_172 := zA (zL hg (zK BK163.out)); have NB172_163 := zA (zJ hg (zK BK163.out)); replace BK163 := zb BK163 hb; have NB0_172 := zA ((by rw [hg]; exact Nat.ne_of_lt (IsS68.lt (show IsS68 w0 _ g s0_0 t170 t171 from by repeat (first | (with_reducible first | exact HI0.out | apply IsS68.alloc | apply IsS68.drewN | apply IsS68.drew | apply IsS68.set_1 | apply IsS68.set_2 | refine IsS68.far ?_ NB0_163.out _) | exact HI0.out))) : g ≠ gb172)); have NB172_0 := zA ((by rw [hg]; exact Nat.ne_of_gt (IsS68.lt (show IsS68 w0 _ g s0_0 t170 t171 from by repeat (first | (with_reducible first | exact HI0.out | apply IsS68.alloc | apply IsS68.drewN | apply IsS68.drew | apply IsS68.set_1 | apply IsS68.set_2 | refine IsS68.far ?_ NB0_163.out _) | exact HI0.out))) : gb172 ≠ g)); replace HI0 := zA (IsS68.below (by repeat (first | (with_reducible first | exact HI0.out | apply IsS68.alloc | apply IsS68.drewN | apply IsS68.drew | apply IsS68.set_1 | apply IsS68.set_2 | refine IsS68.far ?_ NB0_163.out _) | exact HI0.out)) hb); clear hb hbox hg; have hnb67 := NB172_163.out; have hnc67 := NB163_172.out; have hnb68 := NB172_0.out; have hnc68 := NB0_172.out; obtain ⟨hcz69_0, hcz69_1, hcz69_2, hcz69_3, hfz69_0, hfz69_1, hfz69_2, hfz69_3⟩ := ze4 BK172.out; obtain ⟨Ao70, co70, eo70⟩ := Kd.R_slice HO169.out; subst eo70) | ((with_reducible refine zq 32 ?_); refine zg (some 7) Tryd.func32 #[.pointer (some ⟨g, 0, none⟩), .int .i64 8] ?_; (with_reducible refine (spec_l1Below.calls k g s0_0 t170 t171 8 t173 t174 t175 w0 _ ?side1 ?side2 A3.out).mono ?_); (case side1 => repeat (first | (with_reducible first | exact HI0.out | apply IsS68.alloc | apply IsS68.drewN | apply IsS68.drew | apply IsS68.set_1 | apply IsS68.set_2 | refine IsS68.far ?_ NB0_163.out _ | refine IsS68.far ?_ NB0_172.out _) | exact HI0.out)); (case side2 => repeat (first | (with_reducible first | exact HB.out | apply below_alloc | apply pw_below_drewN | apply below_drew1 | refine below_set ?_ (IsS68.ge HI0.out) | refine below_set ?_ GE163.out | refine below_set ?_ GE172.out) | exact HB.out)); rintro e w71 ⟨rfl, hi, hb, hk⟩; refine ⟨_, rfl, ?_⟩; replace BK163 := zA (KeepBut.blk hk (g' := gb163) (o := .cells #[.int .i64 0, .int .i64 0, .int .i64 0, .slice none 0 0] 26 (0, 0)) (zK BK163.out) NB163_0.out (by simp)); replace HO169 := zA (Kd.R_mono (Kd.R_keep (IsS68.apart (show IsS68 w0 _ g s0_0 t170 t171 from by repeat (first | (with_reducible first | exact HI0.out | apply IsS68.alloc | apply IsS68.drewN | apply IsS68.drew | apply IsS68.set_1 | apply IsS68.set_2 | refine IsS68.far ?_ NB0_163.out _ | refine IsS68.far ?_ NB0_172.out _) | exact HI0.out)) (zR (Kd.R_mono (Kd.R_far (p := ⟨gb172, 3, none⟩) (Kd.R_far (p := ⟨gb172, 2, none⟩) (Kd.R_far (p := ⟨gb172, 1, none⟩) (Kd.R_far (p := ⟨gb172, 0, none⟩) (Kd.R_types HO169.out BK172.out (by decide)) (fun _ hk => hk.2) (.int .i64 t164)) (fun _ hk => hk.2) (.int .i64 t165)) (fun _ hk => hk.2) (.int .i64 t166)) (fun _ hk => hk.2) (.slice Ao70 t167.length co70)) (fun _ h_ => h_.1))) (by decide)) hk (fun _ h => h.2)) (fun _ h => h.1)); replace BK172 := zA (KeepBut.blk hk (g' := gb172) (o := .cells #[.int .i64 t164, .int .i64 t165, .int .i64 t166, .slice Ao70 t167.length co70] 26 (0, 0)) (by (with_reducible repeat (first | refine blk_drewN ?_ _ | refine blk_drew ?_ | refine blk_alloc ?_ _)); refine blk_put (cs := #[.int .i64 t164, .int .i64 t165, .int .i64 t166, .slice none 0 0]) ?_ 3 _ rfl; (with_reducible repeat (first | refine blk_drewN ?_ _ | refine blk_drew ?_ | refine blk_alloc ?_ _)); refine blk_put (cs := #[.int .i64 t164, .int .i64 t165, .int .i64 0, .slice none 0 0]) ?_ 2 _ rfl; (with_reducible repeat (first | refine blk_drewN ?_ _ | refine blk_drew ?_ | refine blk_alloc ?_ _)); refine blk_put (cs := #[.int .i64 t164, .int .i64 0, .int .i64 0, .slice none 0 0]) ?_ 1 _ rfl; (with_reducible repeat (first | refine blk_drewN ?_ _ | refine blk_drew ?_ | refine blk_alloc ?_ _)); refine blk_put (cs := #[.int .i64 0, .int .i64 0, .int .i64 0, .slice none 0 0]) ?_ 0 _ rfl; (with_reducible repeat (first | refine blk_drewN ?_ _ | refine blk_drew ?_ | refine blk_alloc ?_ _)); exact BK172.out) NB172_0.out (by simp)); replace HK := zA (KeepBut.trans (zQ HK.out) hk (.inl rfl)); replace HB := zA (hb); replace HI0 := zA (hi); (try clear hb hk hi)) | ((with_reducible refine gate_dst (N := 32) rfl ?_); refine Kd.R_lit Kd.string _ 9 ?hg (N := 32) ?hd (xs := ([(⟨#[97]⟩ : ByteArray), (⟨#[98]⟩ : ByteArray), (⟨#[99]⟩ : ByteArray), (⟨#[100]⟩ : ByteArray)] : List ByteArray)) (inner := [.string (⟨#[97]⟩ : ByteArray), .string (⟨#[98]⟩ : ByteArray), .string (⟨#[99]⟩ : ByteArray), .string (⟨#[100]⟩ : ByteArray)]) (ok := fun _ => True) (okp := fun _ => True) ?hr ?hp (fun _ hk => hk) trivial (Below.refl _ _) (Nat.le_refl _) (by simp) ?_; (case hd => rfl); (case hg => rfl); (case hr => first | (go_simp; done) | (go_simp; rfl)); (case hp => exact (Reps.one (show Kd.M Kd.string _ _ _ (⟨#[97]⟩ : ByteArray) [.string (⟨#[97]⟩ : ByteArray)] from rfl) (Reps.one (show Kd.M Kd.string _ _ _ (⟨#[98]⟩ : ByteArray) [.string (⟨#[98]⟩ : ByteArray)] from rfl) (Reps.one (show Kd.M Kd.string _ _ _ (⟨#[99]⟩ : ByteArray) [.string (⟨#[99]⟩ : ByteArray)] from rfl) (Reps.one (show Kd.M Kd.string _ _ _ (⟨#[100]⟩ : ByteArray) [.string (⟨#[100]⟩ : ByteArray)] from rfl) (Reps.none _ _)))))); intro v198 w72 ho73 hb hg_ hnew_; clear hg_ hnew_; (first | rw [← Ny197.out] at ho73 | (simp only [Int.reduceToNat] at ho73; rw [← Ny197.out] at ho73)); have HO199 := zA (Kd.R_lower (Kd.R_new' ho73 (Kd.R_lt (zR HO169.out))) (keep_size (w := w) (g := g) (row := none) (zQ HK.out))); replace HO169 := zA (Kd.R_elder' (zR HO169.out) (Kd.R_base ho73) hb); replace BK163 := zb BK163 hb; replace BK172 := zb BK172 hb; replace HK := zA (KeepBut.trans (zQ HK.out) (KeepBut.of_below hb g none) (.inl rfl)); replace HB := zA (below_step (zX HB.out (IsS68.ge HI0.out)) hb); replace HI0 := zA (IsS68.below (by repeat (first | (with_reducible first | exact HI0.out | apply IsS68.alloc | apply IsS68.drewN | apply IsS68.drew | apply IsS68.set_1 | apply IsS68.set_2 | refine IsS68.far ?_ NB0_163.out _ | refine IsS68.far ?_ NB0_172.out _) | exact HI0.out)) hb); clear hb ho73) | ((with_reducible refine gate_dst (N := 34) rfl ?_); refine Kd.R_lit (Kd.int .i64) _ 3 ?hg (N := 34) ?hd (xs := ([3, 4] : List Int)) (inner := [.int .i64 3, .int .i64 4]) (ok := fun _ => True) (okp := fun _ => True) ?hr ?hp (fun _ hk => hk) trivial (Below.refl _ _) (Nat.le_refl _) (by simp) ?_; (case hd => rfl); (case hg => rfl); (case hr => first | (go_simp; done) | (go_simp; rfl)); (case hp => exact (Reps.one (show Kd.M (Kd.int .i64) _ _ _ 3 [.int .i64 3] from rfl) (Reps.one (show Kd.M (Kd.int .i64) _ _ _ 4 [.int .i64 4] from rfl) (Reps.none _ _)))); intro v201 w74 ho75 hb hg_ hnew_; clear hg_ hnew_; (first | rw [← Ny200.out] at ho75 | (simp only [Int.reduceToNat] at ho75; rw [← Ny200.out] at ho75)); replace HO169 := zr HO169 hb; replace HO199 := zr HO199 hb; have HO202 := zA (Kd.R_lower ho75 (keep_size (w := w) (g := g) (row := none) (zQ HK.out))); replace BK163 := zb BK163 hb; replace BK172 := zb BK172 hb; replace HK := zA (KeepBut.trans (zQ HK.out) (KeepBut.of_below hb g none) (.inl rfl)); replace HB := zA (below_step (zX HB.out (IsS68.ge HI0.out)) hb); replace HI0 := zA (IsS68.below (by repeat (first | (with_reducible first | exact HI0.out | apply IsS68.alloc | apply IsS68.drewN | apply IsS68.drew | apply IsS68.set_1 | apply IsS68.set_2 | refine IsS68.far ?_ NB0_163.out _ | refine IsS68.far ?_ NB0_172.out _) | exact HI0.out)) hb); clear hb ho75; obtain ⟨Ao76, co76, eo76⟩ := Kd.R_slice HO202.out; subst eo76) | ((with_reducible refine zq 56 ?_); refine zg (some 35) Tryd.func56 #[.pointer (some ⟨g, 0, none⟩), .slice Ao76 y200.length co76] ?_; (with_reducible refine (spec_l1Int.calls k g s0_0 t174 t175 _ _ y200 t203 t204 t205 w0 _ ?side1 ?side2 ?side3 ?side4 ?side5 A61.out).mono ?_); (case side1 => repeat (first | (with_reducible first | exact HI0.out | apply IsS68.alloc | apply IsS68.drewN | apply IsS68.drew | apply IsS68.set_1 | apply IsS68.set_2 | refine IsS68.far ?_ NB0_163.out _ | refine IsS68.far ?_ NB0_172.out _) | exact HI0.out)); (case side2 => repeat (first | (with_reducible first | exact HB.out | apply below_alloc | apply pw_below_drewN | apply below_drew1 | refine below_set ?_ (IsS68.ge HI0.out) | refine below_set ?_ GE163.out | refine below_set ?_ GE172.out) | exact HB.out)); (case side3 => repeat (first | exact (Kd.R_reads' HO202.out).2.2 | (with_reducible refine Kd.C_alloc ?_ _) | (with_reducible refine Kd.C_drewN ?_ _) | (with_reducible refine Kd.C_drew ?_))); (case side4 => exact (Kd.R_reads' HO202.out).2.1); (case side5 => exact far_slice (IsS68.own_ne HI0.out HO202.out (by decide))); rintro e w77 ⟨rfl, hi, hb, hk⟩; refine ⟨_, rfl, ?_⟩; replace BK163 := zA (KeepBut.blk hk (g' := gb163) (o := .cells #[.int .i64 0, .int .i64 0, .int .i64 0, .slice none 0 0] 26 (0, 0)) (zK BK163.out) NB163_0.out (by simp)); replace HO169 := zA (Kd.R_mono (Kd.R_keep (IsS68.apart (show IsS68 w0 _ g s0_0 t174 t175 from by repeat (first | (with_reducible first | exact HI0.out | apply IsS68.alloc | apply IsS68.drewN | apply IsS68.drew | apply IsS68.set_1 | apply IsS68.set_2 | refine IsS68.far ?_ NB0_163.out _ | refine IsS68.far ?_ NB0_172.out _) | exact HI0.out)) (zR HO169.out) (by decide)) hk (fun _ h => h.2)) (fun _ h => h.1)); replace BK172 := zA (KeepBut.blk hk (g' := gb172) (o := .cells #[.int .i64 t164, .int .i64 t165, .int .i64 t166, .slice Ao70 t167.length co70] 26 (0, 0)) (zK BK172.out) NB172_0.out (by simp)); replace HO199 := zA (Kd.R_mono (Kd.R_keep (IsS68.apart (show IsS68 w0 _ g s0_0 t174 t175 from by repeat (first | (with_reducible first | exact HI0.out | apply IsS68.alloc | apply IsS68.drewN | apply IsS68.drew | apply IsS68.set_1 | apply IsS68.set_2 | refine IsS68.far ?_ NB0_163.out _ | refine IsS68.far ?_ NB0_172.out _) | exact HI0.out)) (zR HO199.out) (by decide)) hk (fun _ h => h.2)) (fun _ h => h.1)); replace HO202 := zA (Kd.R_mono (Kd.R_keep (IsS68.apart (show IsS68 w0 _ g s0_0 t174 t175 from by repeat (first | (with_reducible first | exact HI0.out | apply IsS68.alloc | apply IsS68.drewN | apply IsS68.drew | apply IsS68.set_1 | apply IsS68.set_2 | refine IsS68.far ?_ NB0_163.out _ | refine IsS68.far ?_ NB0_172.out _) | exact HI0.out)) (zR HO202.out) (by decide)) hk (fun _ h => h.2)) (fun _ h => h.1)); replace HK := zA (KeepBut.trans (zQ HK.out) hk (.inl rfl)); replace HB := zA (hb); replace HI0 := zA (hi); (try clear hb hk hi); obtain ⟨Ao78, co78, eo78⟩ := Kd.R_slice HO199.out; subst eo78; have q79 : (t203 : Int) ≤ ((y197.length : Int) : Int) := zD; obtain ⟨i079, hi079, _, hsz79, _⟩ := info_parts info9; have hcut79 := cut_to (P := Tryd.prog) 24 9 .i64 Tryd.underlying24 hi079 Ao78 y197.length co78 t203 (zD) q79 (Kd.R_reads' HO199.out).2.1; have hr79 := Kd.R_take (m := (t203 : Int).toNat) HO199.out (by omega); have hy79 : y206.length = (t203 : Int).toNat := (by rw [Ny206.out, List.length_take]; omega); rw [← Ny206.out] at hr79; rw [← hy79] at hr79 hcut79; clear hy79 hi079 hsz79 HO199; have HO208 := Aside0.mk hr79; clear hr79; replace q79 := eq_true q79; obtain ⟨hcz80_0, hcz80_1, hcz80_2, hcz80_3, hfz80_0, hfz80_1, hfz80_2, hfz80_3⟩ := ze4 BK172.out; have hnb81 := NB163_0.out; have hnc81 := NB0_163.out; obtain ⟨hcz82_0, hcz82_1, hcz82_2, hcz82_3, hfz82_0, hfz82_1, hfz82_2, hfz82_3⟩ := ze4 BK163.out))
       refine bodyPost_ret (results_cell_row rfl _ _ gb163 26 #[.int .i64 t164, .int .i64 t165, .int .i64 t166, .slice Ao78 y206.length co78] (0, 0) _ rfl (by (with_reducible repeat (first | refine blk_drewN ?_ _ | refine blk_drew ?_ | refine blk_alloc ?_ _)); refine blk_put (cs := #[.int .i64 t164, .int .i64 t165, .int .i64 t166, .slice none 0 0]) ?_ 3 _ rfl; (with_reducible repeat (first | refine blk_drewN ?_ _ | refine blk_drew ?_ | refine blk_alloc ?_ _)); refine blk_put (cs := #[.int .i64 t164, .int .i64 t165, .int .i64 0, .slice none 0 0]) ?_ 2 _ rfl; (with_reducible repeat (first | refine blk_drewN ?_ _ | refine blk_drew ?_ | refine blk_alloc ?_ _)); refine blk_put (cs := #[.int .i64 t164, .int .i64 0, .int .i64 0, .slice none 0 0]) ?_ 1 _ rfl; (with_reducible repeat (first | refine blk_drewN ?_ _ | refine blk_drew ?_ | refine blk_alloc ?_ _)); refine blk_put (cs := #[.int .i64 0, .int .i64 0, .int .i64 0, .slice none 0 0]) ?_ 0 _ rfl; (with_reducible repeat (first | refine blk_drewN ?_ _ | refine blk_drew ?_ | refine blk_alloc ?_ _)); refine blk_far ?_ NB163_172.out _; (with_reducible repeat (first | refine blk_drewN ?_ _ | refine blk_drew ?_ | refine blk_alloc ?_ _)); exact BK163.out) Tryd.underlying26 rfl (by kernel_rfl)) rfl ?_
       exact ⟨_, zE, by (with_reducible repeat (first | apply Kd.R_alloc | apply Kd.R_drewN | apply Kd.R_drew)); exact Kd.R_mono (Kd.R_far (p := ⟨gb163, 3, none⟩) (Kd.R_far (p := ⟨gb163, 2, none⟩) (Kd.R_far (p := ⟨gb163, 1, none⟩) (Kd.R_far (p := ⟨gb163, 0, none⟩) (Kd.R_far (p := ⟨gb172, 3, none⟩) (Kd.R_types (Kd.R_types HO208.out BK172.out (by decide)) BK163.out (by decide)) (fun _ hk => hk.1.2) (.slice Ao78 y206.length co78)) (fun _ hk => hk.2) (.int .i64 t164)) (fun _ hk => hk.2) (.int .i64 t165)) (fun _ hk => hk.2) (.int .i64 t166)) (fun _ hk => hk.2) (.slice Ao78 y206.length co78)) (fun _ hk => trivial), by repeat (first | (with_reducible first | exact HI0.out | apply IsS68.alloc | apply IsS68.drewN | apply IsS68.drew | apply IsS68.set_1 | apply IsS68.set_2 | refine IsS68.far ?_ NB0_163.out _ | refine IsS68.far ?_ NB0_172.out _) | exact HI0.out), zX HB.out (IsS68.ge HI0.out), zQ HK.out⟩
      ·rw [if_neg c63] at H
       exact absurd H (by simp)
     ·rw [if_neg c62] at H
      exact absurd H (by simp)
    ·rw [if_neg c60] at H
     have c60b0 : (t173 == 3) = false := beq_eq_false_iff_ne.mpr c60
     have c60b1 : (t173 != 3) = true := bne_iff_ne.mpr c60
     simp only [Option.some.injEq, Prod.mk.injEq] at H
     obtain ⟨rfl, rfl, rfl, rfl, rfl, rfl⟩ := H
     go_enter Tryd.func27, Tryd.ntmps27
     go_wp2_with (first | ((with_reducible refine zd 2 ?_); refine ze 2 26 #[.int .i64 0, .int .i64 0, .int .i64 0, .slice none 0 0] ?_; intro gb163 hg w83 hbox hb; replace HB := zA (below_step (zX HB.out (IsS68.ge HI0.out)) hb); have BK163 := zA (hbox); have GW163 := zA ((by rw [hg]; exact (keep_size (w := w) (g := g) (row := none) (zQ HK.out)) : w.heap.size ≤ gb163)); have GE163 := zA ((Nat.le_trans HW0.out (by rw [hg]; exact (keep_size (w := w) (g := g) (row := none) (zQ HK.out)) : w.heap.size ≤ gb163) : w0.heap.size ≤ gb163)); replace HK := zA (KeepBut.trans (zQ HK.out) (KeepBut.of_below hb g none) (.inl rfl)); have NB0_163 := zA ((by rw [hg]; exact Nat.ne_of_lt (IsS68.lt (show IsS68 w0 _ g s0_0 s0_1 s0_2 from by repeat (first | (with_reducible first | exact HI0.out | apply IsS68.alloc | apply IsS68.drewN | apply IsS68.drew | apply IsS68.set_1 | apply IsS68.set_2) | exact HI0.out))) : g ≠ gb163)); have NB163_0 := zA ((by rw [hg]; exact Nat.ne_of_gt (IsS68.lt (show IsS68 w0 _ g s0_0 s0_1 s0_2 from by repeat (first | (with_reducible first | exact HI0.out | apply IsS68.alloc | apply IsS68.drewN | apply IsS68.drew | apply IsS68.set_1 | apply IsS68.set_2) | exact HI0.out))) : gb163 ≠ g)); replace HI0 := zA (IsS68.below (by repeat (first | (with_reducible first | exact HI0.out | apply IsS68.alloc | apply IsS68.drewN | apply IsS68.drew | apply IsS68.set_1 | apply IsS68.set_2) | exact HI0.out)) hb); clear hb hbox hg) | ((with_reducible refine zq 31 ?_); refine zg (some 5) Tryd.func31 #[.pointer (some ⟨g, 0, none⟩)] ?_; (with_reducible refine (spec_l3Draw.calls k g s0_0 s0_1 s0_2 t164 t165 t166 t167 t170 t171 w0 _ ?side1 ?side2 A2.out).mono ?_); (case side1 => repeat (first | (with_reducible first | exact HI0.out | apply IsS68.alloc | apply IsS68.drewN | apply IsS68.drew | apply IsS68.set_1 | apply IsS68.set_2 | refine IsS68.far ?_ NB0_163.out _) | exact HI0.out)); (case side2 => repeat (first | (with_reducible first | exact HB.out | apply below_alloc | apply pw_below_drewN | apply below_drew1 | refine below_set ?_ (IsS68.ge HI0.out) | refine below_set ?_ GE163.out) | exact HB.out)); rintro e w84 ⟨v168, rfl, ho0, hi, hb, hk⟩; refine ⟨_, rfl, ?_⟩; replace BK163 := zA (KeepBut.blk hk (g' := gb163) (o := .cells #[.int .i64 0, .int .i64 0, .int .i64 0, .slice none 0 0] 26 (0, 0)) (zK BK163.out) NB163_0.out (by simp)); have HO169 := zA (Kd.R_lower ho0 (keep_size (w := w) (g := g) (row := none) (zQ HK.out))); replace HK := zA (KeepBut.trans (zQ HK.out) hk (.inl rfl)); replace HB := zA (hb); replace HI0 := zA (hi); (try clear hb hk hi ho0)) | ((with_reducible refine zd 3 ?_); refine ze 3 26 #[.int .i64 0, .int .i64 0, .int .i64 0, .slice none 0 0] ?_; intro gb172 hg w85 hbox hb; replace HO169 := zr HO169 hb; replace HB := zA (below_step (zX HB.out (IsS68.ge HI0.out)) hb); have BK172 := zA (hbox); have GW172 := zA ((by rw [hg]; exact (keep_size (w := w) (g := g) (row := none) (zQ HK.out)) : w.heap.size ≤ gb172)); have GE172 := zA ((Nat.le_trans HW0.out (by rw [hg]; exact (keep_size (w := w) (g := g) (row := none) (zQ HK.out)) : w.heap.size ≤ gb172) : w0.heap.size ≤ gb172)); replace HK := zA (KeepBut.trans (zQ HK.out) (KeepBut.of_below hb g none) (.inl rfl)); have NB163_172 := zA (zL hg (zK BK163.out)); have NB172_163 := zA (zJ hg (zK BK163.out)); replace BK163 := zb BK163 hb; have NB0_172 := zA ((by rw [hg]; exact Nat.ne_of_lt (IsS68.lt (show IsS68 w0 _ g s0_0 t170 t171 from by repeat (first | (with_reducible first | exact HI0.out | apply IsS68.alloc | apply IsS68.drewN | apply IsS68.drew | apply IsS68.set_1 | apply IsS68.set_2 | refine IsS68.far ?_ NB0_163.out _) | exact HI0.out))) : g ≠ gb172)); have NB172_0 := zA ((by rw [hg]; exact Nat.ne_of_gt (IsS68.lt (show IsS68 w0 _ g s0_0 t170 t171 from by repeat (first | (with_reducible first | exact HI0.out | apply IsS68.alloc | apply IsS68.drewN | apply IsS68.drew | apply IsS68.set_1 | apply IsS68.set_2 | refine IsS68.far ?_ NB0_163.out _) | exact HI0.out))) : gb172 ≠ g)); replace HI0 := zA (IsS68.below (by repeat (first | (with_reducible first | exact HI0.out | apply IsS68.alloc | apply IsS68.drewN | apply IsS68.drew | apply IsS68.set_1 | apply IsS68.set_2 | refine IsS68.far ?_ NB0_163.out _) | exact HI0.out)) hb); clear hb hbox hg; have hnb86 := NB172_163.out; have hnc86 := NB163_172.out; have hnb87 := NB172_0.out; have hnc87 := NB0_172.out; obtain ⟨hcz88_0, hcz88_1, hcz88_2, hcz88_3, hfz88_0, hfz88_1, hfz88_2, hfz88_3⟩ := ze4 BK172.out; obtain ⟨Ao89, co89, eo89⟩ := Kd.R_slice HO169.out; subst eo89) | ((with_reducible refine zq 32 ?_); refine zg (some 7) Tryd.func32 #[.pointer (some ⟨g, 0, none⟩), .int .i64 8] ?_; (with_reducible refine (spec_l1Below.calls k g s0_0 t170 t171 8 t173 t174 t175 w0 _ ?side1 ?side2 A3.out).mono ?_); (case side1 => repeat (first | (with_reducible first | exact HI0.out | apply IsS68.alloc | apply IsS68.drewN | apply IsS68.drew | apply IsS68.set_1 | apply IsS68.set_2 | refine IsS68.far ?_ NB0_163.out _ | refine IsS68.far ?_ NB0_172.out _) | exact HI0.out)); (case side2 => repeat (first | (with_reducible first | exact HB.out | apply below_alloc | apply pw_below_drewN | apply below_drew1 | refine below_set ?_ (IsS68.ge HI0.out) | refine below_set ?_ GE163.out | refine below_set ?_ GE172.out) | exact HB.out)); rintro e w90 ⟨rfl, hi, hb, hk⟩; refine ⟨_, rfl, ?_⟩; replace BK163 := zA (KeepBut.blk hk (g' := gb163) (o := .cells #[.int .i64 0, .int .i64 0, .int .i64 0, .slice none 0 0] 26 (0, 0)) (zK BK163.out) NB163_0.out (by simp)); replace HO169 := zA (Kd.R_mono (Kd.R_keep (IsS68.apart (show IsS68 w0 _ g s0_0 t170 t171 from by repeat (first | (with_reducible first | exact HI0.out | apply IsS68.alloc | apply IsS68.drewN | apply IsS68.drew | apply IsS68.set_1 | apply IsS68.set_2 | refine IsS68.far ?_ NB0_163.out _ | refine IsS68.far ?_ NB0_172.out _) | exact HI0.out)) (zR (Kd.R_mono (Kd.R_far (p := ⟨gb172, 3, none⟩) (Kd.R_far (p := ⟨gb172, 2, none⟩) (Kd.R_far (p := ⟨gb172, 1, none⟩) (Kd.R_far (p := ⟨gb172, 0, none⟩) (Kd.R_types HO169.out BK172.out (by decide)) (fun _ hk => hk.2) (.int .i64 t164)) (fun _ hk => hk.2) (.int .i64 t165)) (fun _ hk => hk.2) (.int .i64 t166)) (fun _ hk => hk.2) (.slice Ao89 t167.length co89)) (fun _ h_ => h_.1))) (by decide)) hk (fun _ h => h.2)) (fun _ h => h.1)); replace BK172 := zA (KeepBut.blk hk (g' := gb172) (o := .cells #[.int .i64 t164, .int .i64 t165, .int .i64 t166, .slice Ao89 t167.length co89] 26 (0, 0)) (by (with_reducible repeat (first | refine blk_drewN ?_ _ | refine blk_drew ?_ | refine blk_alloc ?_ _)); refine blk_put (cs := #[.int .i64 t164, .int .i64 t165, .int .i64 t166, .slice none 0 0]) ?_ 3 _ rfl; (with_reducible repeat (first | refine blk_drewN ?_ _ | refine blk_drew ?_ | refine blk_alloc ?_ _)); refine blk_put (cs := #[.int .i64 t164, .int .i64 t165, .int .i64 0, .slice none 0 0]) ?_ 2 _ rfl; (with_reducible repeat (first | refine blk_drewN ?_ _ | refine blk_drew ?_ | refine blk_alloc ?_ _)); refine blk_put (cs := #[.int .i64 t164, .int .i64 0, .int .i64 0, .slice none 0 0]) ?_ 1 _ rfl; (with_reducible repeat (first | refine blk_drewN ?_ _ | refine blk_drew ?_ | refine blk_alloc ?_ _)); refine blk_put (cs := #[.int .i64 0, .int .i64 0, .int .i64 0, .slice none 0 0]) ?_ 0 _ rfl; (with_reducible repeat (first | refine blk_drewN ?_ _ | refine blk_drew ?_ | refine blk_alloc ?_ _)); exact BK172.out) NB172_0.out (by simp)); replace HK := zA (KeepBut.trans (zQ HK.out) hk (.inl rfl)); replace HB := zA (hb); replace HI0 := zA (hi); (try clear hb hk hi); obtain ⟨hcz91_0, hcz91_1, hcz91_2, hcz91_3, hfz91_0, hfz91_1, hfz91_2, hfz91_3⟩ := ze4 BK172.out; have hnb92 := NB163_0.out; have hnc92 := NB0_163.out; obtain ⟨hcz93_0, hcz93_1, hcz93_2, hcz93_3, hfz93_0, hfz93_1, hfz93_2, hfz93_3⟩ := ze4 BK163.out))
     refine bodyPost_ret (results_cell_row rfl _ _ gb163 26 #[.int .i64 t164, .int .i64 t165, .int .i64 t166, .slice Ao89 t167.length co89] (0, 0) _ rfl (by (with_reducible repeat (first | refine blk_drewN ?_ _ | refine blk_drew ?_ | refine blk_alloc ?_ _)); refine blk_put (cs := #[.int .i64 t164, .int .i64 t165, .int .i64 t166, .slice none 0 0]) ?_ 3 _ rfl; (with_reducible repeat (first | refine blk_drewN ?_ _ | refine blk_drew ?_ | refine blk_alloc ?_ _)); refine blk_put (cs := #[.int .i64 t164, .int .i64 t165, .int .i64 0, .slice none 0 0]) ?_ 2 _ rfl; (with_reducible repeat (first | refine blk_drewN ?_ _ | refine blk_drew ?_ | refine blk_alloc ?_ _)); refine blk_put (cs := #[.int .i64 t164, .int .i64 0, .int .i64 0, .slice none 0 0]) ?_ 1 _ rfl; (with_reducible repeat (first | refine blk_drewN ?_ _ | refine blk_drew ?_ | refine blk_alloc ?_ _)); refine blk_put (cs := #[.int .i64 0, .int .i64 0, .int .i64 0, .slice none 0 0]) ?_ 0 _ rfl; (with_reducible repeat (first | refine blk_drewN ?_ _ | refine blk_drew ?_ | refine blk_alloc ?_ _)); exact BK163.out) Tryd.underlying26 rfl (by kernel_rfl)) rfl ?_
     exact ⟨_, zE, by (with_reducible repeat (first | apply Kd.R_alloc | apply Kd.R_drewN | apply Kd.R_drew)); exact Kd.R_mono (Kd.R_far (p := ⟨gb163, 3, none⟩) (Kd.R_far (p := ⟨gb163, 2, none⟩) (Kd.R_far (p := ⟨gb163, 1, none⟩) (Kd.R_far (p := ⟨gb163, 0, none⟩) (Kd.R_types HO169.out BK163.out (by decide)) (fun _ hk => hk.2) (.int .i64 t164)) (fun _ hk => hk.2) (.int .i64 t165)) (fun _ hk => hk.2) (.int .i64 t166)) (fun _ hk => hk.2) (.slice Ao89 t167.length co89)) (fun _ hk => trivial), by repeat (first | (with_reducible first | exact HI0.out | apply IsS68.alloc | apply IsS68.drewN | apply IsS68.drew | apply IsS68.set_1 | apply IsS68.set_2 | refine IsS68.far ?_ NB0_163.out _ | refine IsS68.far ?_ NB0_172.out _) | exact HI0.out), zX HB.out (IsS68.ge HI0.out), zQ HK.out⟩
/-! ### spec_DrawVerText: function 6 -/
def spec_DrawVerText.f (k : Nat) (l0 : List Int) : Option (Int × Int × Int × List ByteArray) := (spec_l1New.f k l0).bind fun bt210 => ((spec_l3Any.f k bt210.1 bt210.2.1 bt210.2.2).bind fun bt214 => (some (bt214.1, bt214.2.1, bt214.2.2.1, bt214.2.2.2.1)))
theorem spec_DrawVerText.calls (k : Nat) (A0 : Option Addr) (c0 : Nat) (l0 : List Int) (r1 : Int) (r2 : Int) (r3 : Int) (r4 : List ByteArray) (w : World) (hr0 : Kd.C (Kd.int .u8) w A0 l0.length l0) (hc0 : l0.length ≤ c0) (h : spec_DrawVerText.f k l0 = some (r1, r2, r3, r4)) :
  Calls Tryd.prog 6 #[.slice A0 l0.length c0] w fun e w' => ∃ v3_ : Value, e = .returned (.agg #[.int .i64 r1, .int .i64 r2, .int .i64 r3, v3_]) ∧ Kd.R Kd.string 9 w' w.heap.size (fun _ => True) v3_ r4 ∧ Below w.heap.size w w' := by
 have hu26 := Tryd.underlying26
 have HR0 := Aside0.mk hr0
 have HC0 := Aside0.mk hc0
 clear hr0 hc0
 have HB := zA (Below.refl w.heap.size w)
 have H : ((spec_l1New.f k l0).bind fun bt210 => ((spec_l3Any.f k bt210.1 bt210.2.1 bt210.2.2).bind fun bt214 => (some (bt214.1, bt214.2.1, bt214.2.2.1, bt214.2.2.2.1)))) = some (r1, r2, r3, r4) := h
 clear h
 replace H := Option.bind_eq_some_iff.mp H
 obtain ⟨⟨t210, t211, t212⟩, A20, H⟩ := H
 try dsimp only at H
 have A2 := Aside0.mk A20
 clear A20
 replace H := Option.bind_eq_some_iff.mp H
 obtain ⟨⟨t214, t215, t216, t217, t220, t221⟩, A30, H⟩ := H
 try dsimp only at H
 have A3 := Aside0.mk A30
 clear A30
 simp only [Option.some.injEq, Prod.mk.injEq] at H
 obtain ⟨rfl, rfl, rfl, rfl⟩ := H
 go_enter Tryd.func6, Tryd.ntmps6
 go_wp2_with (first | ((with_reducible refine zd 2 ?_); refine ze 2 26 #[.int .i64 0, .int .i64 0, .int .i64 0, .slice none 0 0] ?_; intro gb209 hg w4 hbox hb; have BK209 := zA (hbox); have GW209 := zi HB hg; have GE209 := zi HB hg; replace HB := zA (below_step (zB) hb); clear hb hbox hg) | ((with_reducible refine zq 26 ?_); refine zg (some 5) Tryd.func26 #[.slice A0 l0.length c0] ?_; (with_reducible refine (spec_l1New.calls k _ _ l0 t210 t211 t212 w _ ?side1 ?side2 ?side3 A2.out).mono ?_); (case side1 => repeat (first | (with_reducible first | exact HB.out | apply below_alloc | apply pw_below_drewN | apply below_drew1 | refine below_set ?_ GE209.out) | exact HB.out)); (case side2 => exact HR0.out); (case side3 => exact HC0.out); rintro e w5 ⟨g213, rfl, hi, hb, hb2⟩; refine ⟨_, rfl, ?_⟩; replace HB := zA (hb); have HI213 := zA (hi); have NB213_209 := zA (IsS68.ne_blk hi (blk_below (zK BK209.out) hb2) (by decide)); have NB209_213 := zA (Ne.symm (IsS68.ne_blk hi (blk_below (zK BK209.out) hb2) (by decide))); replace BK209 := zA (blk_below (zK BK209.out) hb2); (try clear hb hb2 hi)) | ((with_reducible refine zq 27 ?_); refine zg (some 7) Tryd.func27 #[.pointer (some ⟨g213, 0, none⟩)] ?_; (with_reducible refine (spec_l3Any.calls k g213 t210 t211 t212 t214 t215 t216 t217 t220 t221 w _ ?side1 ?side2 A3.out).mono ?_); (case side1 => repeat (first | (with_reducible first | exact HI213.out | apply IsS68.alloc | apply IsS68.drewN | apply IsS68.drew | apply IsS68.set_1 | apply IsS68.set_2 | refine IsS68.far ?_ NB213_209.out _) | exact HI213.out)); (case side2 => repeat (first | (with_reducible first | exact HB.out | apply below_alloc | apply pw_below_drewN | apply below_drew1 | refine below_set ?_ (IsS68.ge HI213.out) | refine below_set ?_ GE209.out) | exact HB.out)); rintro e w6 ⟨v218, rfl, ho0, hi, hb, hk⟩; refine ⟨_, rfl, ?_⟩; replace BK209 := zA (KeepBut.blk hk (g' := gb209) (o := .cells #[.int .i64 0, .int .i64 0, .int .i64 0, .slice none 0 0] 26 (0, 0)) (zK BK209.out) NB209_213.out (by simp)); have HO219 := zA (Kd.R_lower ho0 (below_size (zX HB.out (IsS68.ge HI213.out)))); replace HB := zA (hb); replace HI213 := zA (hi); (try clear hb hk hi ho0); have hnb7 := NB209_213.out; have hnc7 := NB213_209.out; obtain ⟨hcz8_0, hcz8_1, hcz8_2, hcz8_3, hfz8_0, hfz8_1, hfz8_2, hfz8_3⟩ := ze4 BK209.out; obtain ⟨Ao9, co9, eo9⟩ := Kd.R_slice HO219.out; subst eo9))
 refine bodyPost_ret (results_cell_row rfl _ _ gb209 26 #[.int .i64 t214, .int .i64 t215, .int .i64 t216, .slice Ao9 t217.length co9] (0, 0) _ rfl (by (with_reducible repeat (first | refine blk_drewN ?_ _ | refine blk_drew ?_ | refine blk_alloc ?_ _)); refine blk_put (cs := #[.int .i64 t214, .int .i64 t215, .int .i64 t216, .slice none 0 0]) ?_ 3 _ rfl; (with_reducible repeat (first | refine blk_drewN ?_ _ | refine blk_drew ?_ | refine blk_alloc ?_ _)); refine blk_put (cs := #[.int .i64 t214, .int .i64 t215, .int .i64 0, .slice none 0 0]) ?_ 2 _ rfl; (with_reducible repeat (first | refine blk_drewN ?_ _ | refine blk_drew ?_ | refine blk_alloc ?_ _)); refine blk_put (cs := #[.int .i64 t214, .int .i64 0, .int .i64 0, .slice none 0 0]) ?_ 1 _ rfl; (with_reducible repeat (first | refine blk_drewN ?_ _ | refine blk_drew ?_ | refine blk_alloc ?_ _)); refine blk_put (cs := #[.int .i64 0, .int .i64 0, .int .i64 0, .slice none 0 0]) ?_ 0 _ rfl; (with_reducible repeat (first | refine blk_drewN ?_ _ | refine blk_drew ?_ | refine blk_alloc ?_ _)); exact BK209.out) Tryd.underlying26 rfl (by kernel_rfl)) rfl ?_
 exact ⟨_, zE, by (with_reducible repeat (first | apply Kd.R_alloc | apply Kd.R_drewN | apply Kd.R_drew)); exact Kd.R_mono (Kd.R_far (p := ⟨gb209, 3, none⟩) (Kd.R_far (p := ⟨gb209, 2, none⟩) (Kd.R_far (p := ⟨gb209, 1, none⟩) (Kd.R_far (p := ⟨gb209, 0, none⟩) (Kd.R_types HO219.out BK209.out (by decide)) (fun _ hk => hk.2) (.int .i64 t214)) (fun _ hk => hk.2) (.int .i64 t215)) (fun _ hk => hk.2) (.int .i64 t216)) (fun _ hk => hk.2) (.slice Ao9 t217.length co9)) (fun _ hk => trivial), zX HB.out (IsS68.ge HI213.out)⟩
/-! ### impl_inRange: function 42 -/
def impl_inRange.f (a0 : Int) (a1 : Int) (a2 : Int) : Option (Bool) := if a0 ≥ a1 then (some (decide (a0 ≤ a2))) else (some false)
theorem impl_inRange.calls (a0 : Int) (a1 : Int) (a2 : Int) (r : Bool) (w : World) (h : impl_inRange.f a0 a1 a2 = some r) :
  Calls Tryd.prog 42 #[.int .i64 a0, .int .i64 a1, .int .i64 a2] w fun e w' => e = .returned (.bool r) ∧ Drawn0 w w' := by
 have H : (if a0 ≥ a1 then (some (decide (a0 ≤ a2))) else (some false)) = some r := h
 clear h
 by_cases c4 : a0 ≥ a1
 ·rw [if_pos c4] at H
  have c4b0 : decide (a1 ≤ a0) = true := decide_eq_true c4
  clear c4
  obtain rfl := Option.some.inj H
  go_enter Tryd.func42, Tryd.ntmps42
  go_wp2
  go_ret
  exact ⟨by first | rfl | (simp; done) | (simp [*]; done) | (simp; rw [Bool.eq_iff_iff]; simp; done), by repeat (first | exact Drawn0.refl _ | apply Drawn0.step)⟩
 ·rw [if_neg c4] at H
  have c4b0 : decide (a1 ≤ a0) = false := decide_eq_false c4
  clear c4
  obtain rfl := Option.some.inj H
  go_enter Tryd.func42, Tryd.ntmps42
  go_wp2
  go_ret
  exact ⟨by first | rfl | (simp; done) | (simp [*]; done) | (simp; rw [Bool.eq_iff_iff]; simp; done), by repeat (first | exact Drawn0.refl _ | apply Drawn0.step)⟩
/-! ### impl_isFigure: function 66 -/
def impl_isFigure.f (a0 : Int) : Option (Bool) := if a0 ≥ 48 then (some (decide (a0 ≤ 57))) else (some false)
theorem impl_isFigure.calls (a0 : Int) (r : Bool) (w : World) (h : impl_isFigure.f a0 = some r) :
  Calls Tryd.prog 66 #[.int .u8 a0] w fun e w' => e = .returned (.bool r) ∧ Drawn0 w w' := by
 have H : (if a0 ≥ 48 then (some (decide (a0 ≤ 57))) else (some false)) = some r := h
 clear h
 by_cases c2 : a0 ≥ 48
 ·rw [if_pos c2] at H
  have c2b0 : decide (48 ≤ a0) = true := decide_eq_true c2
  clear c2
  obtain rfl := Option.some.inj H
  go_enter Tryd.func66, Tryd.ntmps66
  go_wp2
  go_ret
  exact ⟨by first | rfl | (simp; done) | (simp [*]; done) | (simp; rw [Bool.eq_iff_iff]; simp; done), by repeat (first | exact Drawn0.refl _ | apply Drawn0.step)⟩
 ·rw [if_neg c2] at H
  have c2b0 : decide (48 ≤ a0) = false := decide_eq_false c2
  clear c2
  obtain rfl := Option.some.inj H
  go_enter Tryd.func66, Tryd.ntmps66
  go_wp2
  go_ret
  exact ⟨by first | rfl | (simp; done) | (simp [*]; done) | (simp; rw [Bool.eq_iff_iff]; simp; done), by repeat (first | exact Drawn0.refl _ | apply Drawn0.step)⟩
/-! ### impl_isSmall: function 72 -/
def impl_isSmall.f (a0 : Int) : Option (Bool) := if a0 ≥ 97 then (some (decide (a0 ≤ 122))) else (some false)
theorem impl_isSmall.calls (a0 : Int) (r : Bool) (w : World) (h : impl_isSmall.f a0 = some r) :
  Calls Tryd.prog 72 #[.int .u8 a0] w fun e w' => e = .returned (.bool r) ∧ Drawn0 w w' := by
 have H : (if a0 ≥ 97 then (some (decide (a0 ≤ 122))) else (some false)) = some r := h
 clear h
 by_cases c2 : a0 ≥ 97
 ·rw [if_pos c2] at H
  have c2b0 : decide (97 ≤ a0) = true := decide_eq_true c2
  clear c2
  obtain rfl := Option.some.inj H
  go_enter Tryd.func72, Tryd.ntmps72
  go_wp2
  go_ret
  exact ⟨by first | rfl | (simp; done) | (simp [*]; done) | (simp; rw [Bool.eq_iff_iff]; simp; done), by repeat (first | exact Drawn0.refl _ | apply Drawn0.step)⟩
 ·rw [if_neg c2] at H
  have c2b0 : decide (97 ≤ a0) = false := decide_eq_false c2
  clear c2
  obtain rfl := Option.some.inj H
  go_enter Tryd.func72, Tryd.ntmps72
  go_wp2
  go_ret
  exact ⟨by first | rfl | (simp; done) | (simp [*]; done) | (simp; rw [Bool.eq_iff_iff]; simp; done), by repeat (first | exact Drawn0.refl _ | apply Drawn0.step)⟩
/-! ### impl_isFigures: function 73 -/
def impl_isFigures.l0 : Nat → ByteArray → Int → Option (Bool)
 | 0, _, _ => none
 | k + 1, x0, x3 => if x3 < (x0.size : Int) then (if 0 ≤ x3 then ((impl_isFigure.f (bt x0 x3)).bind fun t222 => (if t222 = true then (impl_isFigures.l0 k x0 (wrap64 (x3 + 1))) else (some false))) else (none)) else (some (x0.toList != ([] : List UInt8)))
def impl_isFigures.f (k : Nat) (a0 : ByteArray) : Option (Bool) := impl_isFigures.l0 k a0 0
theorem impl_isFigures.calls (k : Nat) (a0 : ByteArray) (r : Bool) (w : World) (h : impl_isFigures.f k a0 = some r) :
  Calls Tryd.prog 73 #[.string a0] w fun e w' => e = .returned (.bool r) ∧ Drawn0 w w' := by
 have H : (impl_isFigures.l0 k a0 0) = some r := h
 clear h
 have H' := Aside0.mk H
 clear H
 go_enter Tryd.func73, Tryd.ntmps73
 go_wp2
 go_loopg [3] k (fun kq v3 w' => ∃ (x3_1 : Int), v3 = .int .i64 x3_1 ∧ Aside0 (impl_isFigures.l0 kq a0 x3_1 = some r) ∧ Aside0 (kq ≤ k) ∧ Drawn0 w w')
 case atStart => exact ⟨(0), zS, H', ⟨Nat.le_refl _⟩, by repeat (first | exact Drawn0.refl _ | apply Drawn0.step)⟩
 case round =>
  clear H'
  obtain ⟨x3_1, rfl, HA, HK1, ⟨m1, rfl⟩⟩ := hrel
  cases gk with
  | zero => exact absurd HA.out (by simp [impl_isFigures.l0])
  | succ k1 =>
   have H := HA.out
   clear HA
   simp only [impl_isFigures.l0] at H
   by_cases c2 : x3_1 < (a0.size : Int)
   ·rw [if_pos c2] at H
    have c2b0 := decide_eq_true c2
    clear c2
    by_cases c3 : 0 ≤ x3_1
    ·rw [if_pos c3] at H
     have c3b0 := decide_eq_true c3
     clear c3
     replace H := Option.bind_eq_some_iff.mp H
     obtain ⟨t222, A50, H⟩ := H
     try dsimp only at H
     have A5 := Aside0.mk A50
     clear A50
     by_cases c6 : t222 = true
     ·subst c6
      rw [if_pos rfl] at H
      have H' := Aside0.mk H
      clear H
      have p4 : 0 ≤ (x3_1 : Int) := zD
      have q4 : x3_1 < (a0.size : Int) := zD
      have hx4 := bt_at a0 x3_1
      replace p4 := eq_true p4
      replace q4 := eq_true q4
      go_wp2_with (first | ((with_reducible refine zq 66 ?_); refine zg (some 13) Tryd.func66 #[.int .u8 (bt a0 x3_1)] ?_; (with_reducible refine (impl_isFigure.calls (bt a0 x3_1) true _ A5.out).mono ?_); rintro e w' ⟨rfl, ⟨nd, rfl⟩⟩; refine ⟨_, rfl, ?_⟩))
      go_roundg k1
      case measure => have := HK1.out; omega
      case rel => exact ⟨(wrap64 (x3_1 + 1)), zS, H', ⟨by have := HK1.out; omega⟩, by repeat (first | exact Drawn0.refl _ | apply Drawn0.step)⟩
     ·replace c6 := Bool.eq_false_iff.mpr c6
      subst c6
      rw [if_neg zFT] at H
      obtain rfl := Option.some.inj H
      have p4 : 0 ≤ (x3_1 : Int) := zD
      have q4 : x3_1 < (a0.size : Int) := zD
      have hx4 := bt_at a0 x3_1
      replace p4 := eq_true p4
      replace q4 := eq_true q4
      go_wp2_with (first | ((with_reducible refine zq 66 ?_); refine zg (some 13) Tryd.func66 #[.int .u8 (bt a0 x3_1)] ?_; (with_reducible refine (impl_isFigure.calls (bt a0 x3_1) false _ A5.out).mono ?_); rintro e w' ⟨rfl, ⟨nd, rfl⟩⟩; refine ⟨_, rfl, ?_⟩))
      go_ret
      exact ⟨by first | rfl | (simp; done) | (simp [*]; done) | (simp; rw [Bool.eq_iff_iff]; simp; done), by repeat (first | exact Drawn0.refl _ | apply Drawn0.step)⟩
    ·rw [if_neg c3] at H
     exact absurd H (by simp)
   ·rw [if_neg c2] at H
    have c2b0 := decide_eq_false c2
    clear c2
    obtain rfl := Option.some.inj H
    go_wp2
    go_ret
    exact ⟨by first | rfl | (simp; done) | (simp [*]; done) | (simp; rw [Bool.eq_iff_iff]; simp; done), by repeat (first | exact Drawn0.refl _ | apply Drawn0.step)⟩
/-! ### impl_preOk: function 41 -/
mutual
def impl_preOk.l0 : Nat → ByteArray → Int → Option (Bool)
 | 0, _, _ => none
 | k + 1, x0, x3 => if x3 < (x0.size : Int) then (impl_preOk.j1 k x0 x3) else ((impl_inRange.f (x0.size : Int) 1 8).bind fun t223 => (if t223 = true then ((impl_isFigures.f k x0).bind fun t224 => (if t224 = true then (if x0.toList = ([48] : List UInt8) then (some true) else (if 0 < (x0.size : Int) then (some ((bt x0 0) != 48)) else (none))) else (some true))) else (some false)))
def impl_preOk.j1 : Nat → ByteArray → Int → Option (Bool)
 | 0, _, _ => none
 | k + 1, x0, x3 => if 0 ≤ x3 then (if x3 < (x0.size : Int) then ((impl_isSmall.f (bt x0 x3)).bind fun t225 => (if t225 = true then (impl_preOk.l0 k x0 (wrap64 (x3 + 1))) else (if (bt x0 x3) ≥ 65 then (if ((bt x0 x3) ≤ 90) then (impl_preOk.l0 k x0 (wrap64 (x3 + 1))) else ((impl_isFigure.f (bt x0 x3)).bind fun t226 => (if t226 = true then (impl_preOk.l0 k x0 (wrap64 (x3 + 1))) else (if (bt x0 x3) = 45 then (impl_preOk.l0 k x0 (wrap64 (x3 + 1))) else (some false))))) else ((impl_isFigure.f (bt x0 x3)).bind fun t227 => (if t227 = true then (impl_preOk.l0 k x0 (wrap64 (x3 + 1))) else (if (bt x0 x3) = 45 then (impl_preOk.l0 k x0 (wrap64 (x3 + 1))) else (some false))))))) else (none)) else (none)
end
def impl_preOk.f (k : Nat) (a0 : ByteArray) : Option (Bool) := impl_preOk.l0 k a0 0
theorem impl_preOk.calls (k : Nat) (a0 : ByteArray) (r : Bool) (w : World) (h : impl_preOk.f k a0 = some r) :
  Calls Tryd.prog 41 #[.string a0] w fun e w' => e = .returned (.bool r) ∧ Drawn0 w w' := by
 have H : (impl_preOk.l0 k a0 0) = some r := h
 clear h
 have H' := Aside0.mk H
 clear H
 go_enter Tryd.func41, Tryd.ntmps41
 go_wp2
 go_loopg [3] k (fun kq v3 w' => ∃ (x3_1 : Int), v3 = .int .i64 x3_1 ∧ Aside0 (impl_preOk.l0 kq a0 x3_1 = some r) ∧ Aside0 (kq ≤ k) ∧ Drawn0 w w')
 case atStart => exact ⟨(0), zS, H', ⟨Nat.le_refl _⟩, by repeat (first | exact Drawn0.refl _ | apply Drawn0.step)⟩
 case round =>
  clear H'
  obtain ⟨x3_1, rfl, HA, HK1, ⟨m1, rfl⟩⟩ := hrel
  cases gk with
  | zero => exact absurd HA.out (by simp [impl_preOk.l0])
  | succ k1 =>
   have H := HA.out
   clear HA
   simp only [impl_preOk.l0] at H
   have HC2 := Aside0.mk H
   clear H
   go_upto_if 8 with (fail)
   go_cut [] (fun wc => ∃ (kq : Nat), Aside0 (impl_preOk.j1 kq a0 x3_1 = some r) ∧ Aside0 (kq ≤ k1) ∧ Drawn0 w wc)
   case first =>
    have H := HC2.out
    clear HC2
    by_cases c3 : x3_1 < (a0.size : Int)
    ·rw [if_pos c3] at H
     have c3b0 := decide_eq_true c3
     clear c3
     (first | rw [c3b0] | (simp only [i64_w, i32_w]; rw [c3b0]) | skip)
     have H' := Aside0.mk H
     clear H
     go_wp2
     go_meet
     case rel => exact ⟨_, (by first | exact H' | (subst_vars; exact H')), ⟨by have := HK1.out; first | omega | exact Nat.le_refl _⟩, by repeat (first | exact Drawn0.refl _ | apply Drawn0.step)⟩
    ·rw [if_neg c3] at H
     have c3b0 := decide_eq_false c3
     clear c3
     (first | rw [c3b0] | (simp only [i64_w, i32_w]; rw [c3b0]) | skip)
     replace H := Option.bind_eq_some_iff.mp H
     obtain ⟨t223, A40, H⟩ := H
     try dsimp only at H
     have A4 := Aside0.mk A40
     clear A40
     by_cases c5 : t223 = true
     ·subst c5
      rw [if_pos rfl] at H
      replace H := Option.bind_eq_some_iff.mp H
      obtain ⟨t224, A60, H⟩ := H
      try dsimp only at H
      have A6 := Aside0.mk A60
      clear A60
      by_cases c7 : t224 = true
      ·subst c7
       rw [if_pos rfl] at H
       by_cases c8 : a0.toList = ([48] : List UInt8)
       ·rw [if_pos c8] at H
        have c8b0 : (a0.toList == ([48] : List UInt8)) = true := beq_iff_eq.mpr c8
        have c8b1 : (a0.toList != ([48] : List UInt8)) = false := bne_eq_false_iff_eq.mpr c8
        clear c8
        obtain rfl := Option.some.inj H
        go_wp2_with (first | ((with_reducible refine zq 42 ?_); refine zg (some 37) Tryd.func42 #[.int .i64 (a0.size : Int), .int .i64 1, .int .i64 8] ?_; (with_reducible refine (impl_inRange.calls (a0.size : Int) 1 8 true _ A4.out).mono ?_); rintro e w' ⟨rfl, ⟨nd, rfl⟩⟩; refine ⟨_, rfl, ?_⟩) | (go_at_call 73; (with_reducible refine (impl_isFigures.calls k1 a0 true _ A6.out).mono ?_); rintro e w' ⟨rfl, ⟨nd, rfl⟩⟩))
        go_ret
        exact ⟨by first | rfl | (simp; done) | (simp [*]; done) | (simp; rw [Bool.eq_iff_iff]; simp; done), by repeat (first | exact Drawn0.refl _ | apply Drawn0.step)⟩
       ·rw [if_neg c8] at H
        have c8b0 : (a0.toList == ([48] : List UInt8)) = false := beq_eq_false_iff_ne.mpr c8
        have c8b1 : (a0.toList != ([48] : List UInt8)) = true := bne_iff_ne.mpr c8
        by_cases c9 : 0 < (a0.size : Int)
        ·rw [if_pos c9] at H
         have c9b0 := decide_eq_true c9
         have c9b1 : decide (0 < a0.size) = true := decide_eq_true (by omega)
         clear c9
         obtain rfl := Option.some.inj H
         go_wp2_with (first | ((with_reducible refine zq 42 ?_); refine zg (some 37) Tryd.func42 #[.int .i64 (a0.size : Int), .int .i64 1, .int .i64 8] ?_; (with_reducible refine (impl_inRange.calls (a0.size : Int) 1 8 true _ A4.out).mono ?_); rintro e w' ⟨rfl, ⟨nd, rfl⟩⟩; refine ⟨_, rfl, ?_⟩) | (go_at_call 73; (with_reducible refine (impl_isFigures.calls k1 a0 true _ A6.out).mono ?_); rintro e w' ⟨rfl, ⟨nd, rfl⟩⟩; have p10 : 0 ≤ (0 : Int) := (by omega); have q10 : 0 < a0.size := (by have : (0 : Int) < (a0.size : Int) := zD; omega); have hx10 : ∀ h : 0 < a0.size, ((a0[0]'h).toNat : Int) = bt a0 0 := bt_at a0 0; clear p10; have qi10 : (0 < (a0.size : Int)) = True := eq_true (zD); replace q10 := eq_true q10))
         go_ret
         exact ⟨by first | rfl | (simp; done) | (simp [*]; done) | (simp; rw [Bool.eq_iff_iff]; simp; done), by repeat (first | exact Drawn0.refl _ | apply Drawn0.step)⟩
        ·rw [if_neg c9] at H
         exact absurd H (by simp)
      ·replace c7 := Bool.eq_false_iff.mpr c7
       subst c7
       rw [if_neg zFT] at H
       obtain rfl := Option.some.inj H
       go_wp2_with (first | ((with_reducible refine zq 42 ?_); refine zg (some 37) Tryd.func42 #[.int .i64 (a0.size : Int), .int .i64 1, .int .i64 8] ?_; (with_reducible refine (impl_inRange.calls (a0.size : Int) 1 8 true _ A4.out).mono ?_); rintro e w' ⟨rfl, ⟨nd, rfl⟩⟩; refine ⟨_, rfl, ?_⟩) | (go_at_call 73; (with_reducible refine (impl_isFigures.calls k1 a0 false _ A6.out).mono ?_); rintro e w' ⟨rfl, ⟨nd, rfl⟩⟩))
       go_ret
       exact ⟨by first | rfl | (simp; done) | (simp [*]; done) | (simp; rw [Bool.eq_iff_iff]; simp; done), by repeat (first | exact Drawn0.refl _ | apply Drawn0.step)⟩
     ·replace c5 := Bool.eq_false_iff.mpr c5
      subst c5
      rw [if_neg zFT] at H
      obtain rfl := Option.some.inj H
      go_wp2_with (first | ((with_reducible refine zq 42 ?_); refine zg (some 37) Tryd.func42 #[.int .i64 (a0.size : Int), .int .i64 1, .int .i64 8] ?_; (with_reducible refine (impl_inRange.calls (a0.size : Int) 1 8 false _ A4.out).mono ?_); rintro e w' ⟨rfl, ⟨nd, rfl⟩⟩; refine ⟨_, rfl, ?_⟩))
      go_ret
      exact ⟨by first | rfl | (simp; done) | (simp [*]; done) | (simp; rw [Bool.eq_iff_iff]; simp; done), by repeat (first | exact Drawn0.refl _ | apply Drawn0.step)⟩
   case rest =>
    clear HC2
    try clear p1
    try clear q1
    try clear hx1
    try clear qi1
    try clear p2
    try clear c3
    try clear c3b0
    try clear c4
    try clear c5
    try clear c7
    try clear c8
    try clear c8b0
    try clear c8b1
    try clear c9
    try clear c9b0
    try clear c9b1
    try clear p10
    try clear q10
    try clear hx10
    try clear qi10
    try clear p10
    try clear q10
    obtain ⟨kq, HA, HJ1, ⟨mc1, rfl⟩⟩ := hcut
    cases kq with
    | zero => exact absurd HA.out (by simp [impl_preOk.j1])
    | succ kj1 =>
     have H := HA.out
     clear HA
     simp only [impl_preOk.j1] at H
     by_cases c11 : 0 ≤ x3_1
     ·rw [if_pos c11] at H
      have c11b0 := decide_eq_true c11
      clear c11
      by_cases c12 : x3_1 < (a0.size : Int)
      ·rw [if_pos c12] at H
       have c12b0 := decide_eq_true c12
       clear c12
       replace H := Option.bind_eq_some_iff.mp H
       obtain ⟨t225, A140, H⟩ := H
       try dsimp only at H
       have A14 := Aside0.mk A140
       clear A140
       by_cases c15 : t225 = true
       ·subst c15
        rw [if_pos rfl] at H
        have H' := Aside0.mk H
        clear H
        have p13 : 0 ≤ (x3_1 : Int) := zD
        have q13 : x3_1 < (a0.size : Int) := zD
        have hx13 := bt_at a0 x3_1
        replace p13 := eq_true p13
        replace q13 := eq_true q13
        go_wp2_with (first | ((with_reducible refine zq 72 ?_); refine zg (some 15) Tryd.func72 #[.int .u8 (bt a0 x3_1)] ?_; (with_reducible refine (impl_isSmall.calls (bt a0 x3_1) true _ A14.out).mono ?_); rintro e w' ⟨rfl, ⟨nd, rfl⟩⟩; refine ⟨_, rfl, ?_⟩))
        go_roundg kj1
        case measure => have := HK1.out; have := HJ1.out; omega
        case rel => exact ⟨(wrap64 (x3_1 + 1)), zS, H', ⟨by have := HK1.out; have := HJ1.out; omega⟩, by repeat (first | exact Drawn0.refl _ | apply Drawn0.step)⟩
       ·replace c15 := Bool.eq_false_iff.mpr c15
        subst c15
        rw [if_neg zFT] at H
        by_cases c16 : (bt a0 x3_1) ≥ 65
        ·rw [if_pos c16] at H
         have c16b0 : decide (65 ≤ (bt a0 x3_1)) = true := decide_eq_true c16
         clear c16
         by_cases c17 : ((bt a0 x3_1) ≤ 90)
         ·rw [if_pos c17] at H
          have c17b0 : decide ((bt a0 x3_1) ≤ 90) = true := decide_eq_true c17
          clear c17
          have H' := Aside0.mk H
          clear H
          have p13 : 0 ≤ (x3_1 : Int) := zD
          have q13 : x3_1 < (a0.size : Int) := zD
          have hx13 := bt_at a0 x3_1
          replace p13 := eq_true p13
          replace q13 := eq_true q13
          go_wp2_with (first | ((with_reducible refine zq 72 ?_); refine zg (some 15) Tryd.func72 #[.int .u8 (bt a0 x3_1)] ?_; (with_reducible refine (impl_isSmall.calls (bt a0 x3_1) false _ A14.out).mono ?_); rintro e w' ⟨rfl, ⟨nd, rfl⟩⟩; refine ⟨_, rfl, ?_⟩))
          go_roundg kj1
          case measure => have := HK1.out; have := HJ1.out; omega
          case rel => exact ⟨(wrap64 (x3_1 + 1)), zS, H', ⟨by have := HK1.out; have := HJ1.out; omega⟩, by repeat (first | exact Drawn0.refl _ | apply Drawn0.step)⟩
         ·rw [if_neg c17] at H
          have c17b0 : decide ((bt a0 x3_1) ≤ 90) = false := decide_eq_false c17
          clear c17
          replace H := Option.bind_eq_some_iff.mp H
          obtain ⟨t226, A180, H⟩ := H
          try dsimp only at H
          have A18 := Aside0.mk A180
          clear A180
          by_cases c19 : t226 = true
          ·subst c19
           rw [if_pos rfl] at H
           have H' := Aside0.mk H
           clear H
           have p13 : 0 ≤ (x3_1 : Int) := zD
           have q13 : x3_1 < (a0.size : Int) := zD
           have hx13 := bt_at a0 x3_1
           replace p13 := eq_true p13
           replace q13 := eq_true q13
           go_wp2_with (first | ((with_reducible refine zq 72 ?_); refine zg (some 15) Tryd.func72 #[.int .u8 (bt a0 x3_1)] ?_; (with_reducible refine (impl_isSmall.calls (bt a0 x3_1) false _ A14.out).mono ?_); rintro e w' ⟨rfl, ⟨nd, rfl⟩⟩; refine ⟨_, rfl, ?_⟩) | (go_at_call 66; (with_reducible refine (impl_isFigure.calls (bt a0 x3_1) true _ A18.out).mono ?_); rintro e w' ⟨rfl, ⟨nd, rfl⟩⟩))
           go_roundg kj1
           case measure => have := HK1.out; have := HJ1.out; omega
           case rel => exact ⟨(wrap64 (x3_1 + 1)), zS, H', ⟨by have := HK1.out; have := HJ1.out; omega⟩, by repeat (first | exact Drawn0.refl _ | apply Drawn0.step)⟩
          ·replace c19 := Bool.eq_false_iff.mpr c19
           subst c19
           rw [if_neg zFT] at H
           by_cases c20 : (bt a0 x3_1) = 45
           ·rw [if_pos c20] at H
            have c20b0 : ((bt a0 x3_1) == 45) = true := beq_iff_eq.mpr c20
            have c20b1 : ((bt a0 x3_1) != 45) = false := bne_eq_false_iff_eq.mpr c20
            clear c20
            have H' := Aside0.mk H
            clear H
            have p13 : 0 ≤ (x3_1 : Int) := zD
            have q13 : x3_1 < (a0.size : Int) := zD
            have hx13 := bt_at a0 x3_1
            replace p13 := eq_true p13
            replace q13 := eq_true q13
            go_wp2_with (first | ((with_reducible refine zq 72 ?_); refine zg (some 15) Tryd.func72 #[.int .u8 (bt a0 x3_1)] ?_; (with_reducible refine (impl_isSmall.calls (bt a0 x3_1) false _ A14.out).mono ?_); rintro e w' ⟨rfl, ⟨nd, rfl⟩⟩; refine ⟨_, rfl, ?_⟩) | (go_at_call 66; (with_reducible refine (impl_isFigure.calls (bt a0 x3_1) false _ A18.out).mono ?_); rintro e w' ⟨rfl, ⟨nd, rfl⟩⟩))
            go_roundg kj1
            case measure => have := HK1.out; have := HJ1.out; omega
            case rel => exact ⟨(wrap64 (x3_1 + 1)), zS, H', ⟨by have := HK1.out; have := HJ1.out; omega⟩, by repeat (first | exact Drawn0.refl _ | apply Drawn0.step)⟩
           ·rw [if_neg c20] at H
            have c20b0 : ((bt a0 x3_1) == 45) = false := beq_eq_false_iff_ne.mpr c20
            have c20b1 : ((bt a0 x3_1) != 45) = true := bne_iff_ne.mpr c20
            obtain rfl := Option.some.inj H
            have p13 : 0 ≤ (x3_1 : Int) := zD
            have q13 : x3_1 < (a0.size : Int) := zD
            have hx13 := bt_at a0 x3_1
            replace p13 := eq_true p13
            replace q13 := eq_true q13
            go_wp2_with (first | ((with_reducible refine zq 72 ?_); refine zg (some 15) Tryd.func72 #[.int .u8 (bt a0 x3_1)] ?_; (with_reducible refine (impl_isSmall.calls (bt a0 x3_1) false _ A14.out).mono ?_); rintro e w' ⟨rfl, ⟨nd, rfl⟩⟩; refine ⟨_, rfl, ?_⟩) | (go_at_call 66; (with_reducible refine (impl_isFigure.calls (bt a0 x3_1) false _ A18.out).mono ?_); rintro e w' ⟨rfl, ⟨nd, rfl⟩⟩))
            go_ret
            exact ⟨by first | rfl | (simp; done) | (simp [*]; done) | (simp; rw [Bool.eq_iff_iff]; simp; done), by repeat (first | exact Drawn0.refl _ | apply Drawn0.step)⟩
        ·rw [if_neg c16] at H
         have c16b0 : decide (65 ≤ (bt a0 x3_1)) = false := decide_eq_false c16
         clear c16
         replace H := Option.bind_eq_some_iff.mp H
         obtain ⟨t227, A210, H⟩ := H
         try dsimp only at H
         have A21 := Aside0.mk A210
         clear A210
         by_cases c22 : t227 = true
         ·subst c22
          rw [if_pos rfl] at H
          have H' := Aside0.mk H
          clear H
          have p13 : 0 ≤ (x3_1 : Int) := zD
          have q13 : x3_1 < (a0.size : Int) := zD
          have hx13 := bt_at a0 x3_1
          replace p13 := eq_true p13
          replace q13 := eq_true q13
          go_wp2_with (first | ((with_reducible refine zq 72 ?_); refine zg (some 15) Tryd.func72 #[.int .u8 (bt a0 x3_1)] ?_; (with_reducible refine (impl_isSmall.calls (bt a0 x3_1) false _ A14.out).mono ?_); rintro e w' ⟨rfl, ⟨nd, rfl⟩⟩; refine ⟨_, rfl, ?_⟩) | (go_at_call 66; (with_reducible refine (impl_isFigure.calls (bt a0 x3_1) true _ A21.out).mono ?_); rintro e w' ⟨rfl, ⟨nd, rfl⟩⟩))
          go_roundg kj1
          case measure => have := HK1.out; have := HJ1.out; omega
          case rel => exact ⟨(wrap64 (x3_1 + 1)), zS, H', ⟨by have := HK1.out; have := HJ1.out; omega⟩, by repeat (first | exact Drawn0.refl _ | apply Drawn0.step)⟩
         ·replace c22 := Bool.eq_false_iff.mpr c22
          subst c22
          rw [if_neg zFT] at H
          by_cases c23 : (bt a0 x3_1) = 45
          ·rw [if_pos c23] at H
           have c23b0 : ((bt a0 x3_1) == 45) = true := beq_iff_eq.mpr c23
           have c23b1 : ((bt a0 x3_1) != 45) = false := bne_eq_false_iff_eq.mpr c23
           clear c23
           have H' := Aside0.mk H
           clear H
           have p13 : 0 ≤ (x3_1 : Int) := zD
           have q13 : x3_1 < (a0.size : Int) := zD
           have hx13 := bt_at a0 x3_1
           replace p13 := eq_true p13
           replace q13 := eq_true q13
           go_wp2_with (first | ((with_reducible refine zq 72 ?_); refine zg (some 15) Tryd.func72 #[.int .u8 (bt a0 x3_1)] ?_; (with_reducible refine (impl_isSmall.calls (bt a0 x3_1) false _ A14.out).mono ?_); rintro e w' ⟨rfl, ⟨nd, rfl⟩⟩; refine ⟨_, rfl, ?_⟩) | (go_at_call 66; (with_reducible refine (impl_isFigure.calls (bt a0 x3_1) false _ A21.out).mono ?_); rintro e w' ⟨rfl, ⟨nd, rfl⟩⟩))
           go_roundg kj1
           case measure => have := HK1.out; have := HJ1.out; omega
           case rel => exact ⟨(wrap64 (x3_1 + 1)), zS, H', ⟨by have := HK1.out; have := HJ1.out; omega⟩, by repeat (first | exact Drawn0.refl _ | apply Drawn0.step)⟩
          ·rw [if_neg c23] at H
           have c23b0 : ((bt a0 x3_1) == 45) = false := beq_eq_false_iff_ne.mpr c23
           have c23b1 : ((bt a0 x3_1) != 45) = true := bne_iff_ne.mpr c23
           obtain rfl := Option.some.inj H
           have p13 : 0 ≤ (x3_1 : Int) := zD
           have q13 : x3_1 < (a0.size : Int) := zD
           have hx13 := bt_at a0 x3_1
           replace p13 := eq_true p13
           replace q13 := eq_true q13
           go_wp2_with (first | ((with_reducible refine zq 72 ?_); refine zg (some 15) Tryd.func72 #[.int .u8 (bt a0 x3_1)] ?_; (with_reducible refine (impl_isSmall.calls (bt a0 x3_1) false _ A14.out).mono ?_); rintro e w' ⟨rfl, ⟨nd, rfl⟩⟩; refine ⟨_, rfl, ?_⟩) | (go_at_call 66; (with_reducible refine (impl_isFigure.calls (bt a0 x3_1) false _ A21.out).mono ?_); rintro e w' ⟨rfl, ⟨nd, rfl⟩⟩))
           go_ret
           exact ⟨by first | rfl | (simp; done) | (simp [*]; done) | (simp; rw [Bool.eq_iff_iff]; simp; done), by repeat (first | exact Drawn0.refl _ | apply Drawn0.step)⟩
      ·rw [if_neg c12] at H
       exact absurd H (by simp)
     ·rw [if_neg c11] at H
      exact absurd H (by simp)
end Go.Proofs.YtbjgmbhkofgjaaaDoor.PGB
