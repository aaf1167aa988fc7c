/- The walks of the functions that these laws reach, and what each comes to: printed by this session's program. -/
import Derived.Test.YtbjgmbhkofgjaaaDoorZGBPGBx0
import Derived.Test.YtbjgmbhkofgjaaaDoorZGBPGBx1
import Derived.Test.YtbjgmbhkofgjaaaDoorZGBPGBx3
import Derived.Test.YtbjgmbhkofgjaaaDoorZGBPGBx4
import Derived.Test.YtbjgmbhkofgjaaaDoorZGBPGBx5
import Derived.Test.YtbjgmbhkofgjaaaDoorZGBPGBx6
import Derived.Test.YtbjgmbhkofgjaaaDoorZGBPGBx7
import Derived.Test.YtbjgmbhkofgjaaaDoorZGBPGBx8
import Derived.Test.YtbjgmbhkofgjaaaDoorZGBPGBx9
import Derived.Test.YtbjgmbhkofgjaaaDoorZGBPGBx10
import Derived.Test.YtbjgmbhkofgjaaaDoorZGBPGBx11
import Derived.Test.YtbjgmbhkofgjaaaDoorZGBSays
import Derived.Test.YtbjgmbhkofgjaaaDoorZGBRegs
namespace Go.Proofs.YtbjgmbhkofgjaaaDoor.PGB
open Go.RowKit Go.Proofs.YtbjgmbhkofgjaaaDoorW.PrintWords Go.Proofs.YtbjgmbhkofgjaaaDoorW.PrintLast Go.Proofs.YtbjgmbhkofgjaaaDoorW.PrintMore
attribute [local go_sem high] Go.Proofs.YtbjgmbhkofgjaaaDoor.Mine.str_gtr Go.Proofs.YtbjgmbhkofgjaaaDoor.Mine.str_leq Go.Proofs.YtbjgmbhkofgjaaaDoor.Mine.str_geq
attribute [local go_sem] max2_int min2_int max_two min_two max_three min_three max_four min_four   -- for this text's walks alone
set_option linter.unusedVariables false
set_option maxHeartbeats 8000000
set_option maxRecDepth 100000
set_option linter.unusedSimpArgs false
/-! ### laws_FnVers: function 3 -/
mutual
def laws_FnVers.j0 : Nat → List Int → Option (Bool)
 | 0, _ => none
 | k + 1, x0 => (spec_DrawVerText.f k x0).bind fun bt407 => ((impl_VerText.f k bt407.1 bt407.2.1 bt407.2.2.1 bt407.2.2.2).bind fun t414 => ((spec_DrawParseVer.f k x0).bind fun t415 => ((impl_ParseVer.f k t415).bind fun bt416 => ((spec_ParseVer.f k t415).bind fun bt424 => ((spec_DrawVers.f k x0).bind fun bt432 => ((impl_LessVer.f k bt432.1 bt432.2.1 bt432.2.2.1 bt432.2.2.2.1 bt432.2.2.2.2.1 bt432.2.2.2.2.2.1 bt432.2.2.2.2.2.2.1 bt432.2.2.2.2.2.2.2.1).bind fun t453 => (if t453 = true then (laws_FnVers.j1 k t414 t415 bt416.2.2.2.2 bt424.2.2.2.2 (0 + 1) bt407.1 bt407.2.1 bt407.2.2.1 bt407.2.2.2 bt416.1 bt416.2.1 bt416.2.2.1 bt416.2.2.2.1 bt432.1 bt432.2.1 bt432.2.2.1 bt432.2.2.2.1 bt432.2.2.2.2.1 bt432.2.2.2.2.2.1 bt432.2.2.2.2.2.2.1 bt432.2.2.2.2.2.2.2.1 bt432.2.2.2.2.2.2.2.2.1 bt432.2.2.2.2.2.2.2.2.2.1 bt432.2.2.2.2.2.2.2.2.2.2.1 bt432.2.2.2.2.2.2.2.2.2.2.2) else (laws_FnVers.j1 k t414 t415 bt416.2.2.2.2 bt424.2.2.2.2 0 bt407.1 bt407.2.1 bt407.2.2.1 bt407.2.2.2 bt416.1 bt416.2.1 bt416.2.2.1 bt416.2.2.2.1 bt432.1 bt432.2.1 bt432.2.2.1 bt432.2.2.2.1 bt432.2.2.2.2.1 bt432.2.2.2.2.2.1 bt432.2.2.2.2.2.2.1 bt432.2.2.2.2.2.2.2.1 bt432.2.2.2.2.2.2.2.2.1 bt432.2.2.2.2.2.2.2.2.2.1 bt432.2.2.2.2.2.2.2.2.2.2.1 bt432.2.2.2.2.2.2.2.2.2.2.2))))))))
def laws_FnVers.j1 : Nat → ByteArray → ByteArray → Bool → Bool → Int → Int → Int → Int → List ByteArray → Int → Int → Int → List ByteArray → Int → Int → Int → List ByteArray → Int → Int → Int → List ByteArray → Int → Int → Int → List ByteArray → Option (Bool)
 | 0, _, _, _, _, _, _, _, _, _, _, _, _, _, _, _, _, _, _, _, _, _, _, _, _, _ => none
 | k + 1, x4, x5, x7, x9, x13, x414000, x414001, x414002, x414003, x424000, x424001, x424002, x424003, x451000, x451001, x451002, x451003, x452000, x452001, x452002, x452003, x453000, x453001, x453002, x453003 => (impl_LessVer.f k x452000 x452001 x452002 x452003 x451000 x451001 x451002 x451003).bind fun t454 => (if t454 = true then (laws_FnVers.j2 k x4 x5 x7 x9 (wrap64 (x13 + 1)) x414000 x414001 x414002 x414003 x424000 x424001 x424002 x424003 x451000 x451001 x451002 x451003 x452000 x452001 x452002 x452003 x453000 x453001 x453002 x453003) else (laws_FnVers.j2 k x4 x5 x7 x9 x13 x414000 x414001 x414002 x414003 x424000 x424001 x424002 x424003 x451000 x451001 x451002 x451003 x452000 x452001 x452002 x452003 x453000 x453001 x453002 x453003))
def laws_FnVers.j2 : Nat → ByteArray → ByteArray → Bool → Bool → Int → Int → Int → Int → List ByteArray → Int → Int → Int → List ByteArray → Int → Int → Int → List ByteArray → Int → Int → Int → List ByteArray → Int → Int → Int → List ByteArray → Option (Bool)
 | 0, _, _, _, _, _, _, _, _, _, _, _, _, _, _, _, _, _, _, _, _, _, _, _, _, _ => none
 | k + 1, x4, x5, x7, x9, x13, x414000, x414001, x414002, x414003, x424000, x424001, x424002, x424003, x451000, x451001, x451002, x451003, x452000, x452001, x452002, x452003, x453000, x453001, x453002, x453003 => (impl_SameVer.f k x451000 x451001 x451002 x451003 x452000 x452001 x452002 x452003).bind fun t455 => (if t455 = true then (laws_FnVers.j3 k x4 x5 x7 x9 (wrap64 (x13 + 1)) x414000 x414001 x414002 x414003 x424000 x424001 x424002 x424003 x451000 x451001 x451002 x451003 x452000 x452001 x452002 x452003 x453000 x453001 x453002 x453003) else (laws_FnVers.j3 k x4 x5 x7 x9 x13 x414000 x414001 x414002 x414003 x424000 x424001 x424002 x424003 x451000 x451001 x451002 x451003 x452000 x452001 x452002 x452003 x453000 x453001 x453002 x453003))
def laws_FnVers.j3 : Nat → ByteArray → ByteArray → Bool → Bool → Int → Int → Int → Int → List ByteArray → Int → Int → Int → List ByteArray → Int → Int → Int → List ByteArray → Int → Int → Int → List ByteArray → Int → Int → Int → List ByteArray → Option (Bool)
 | 0, _, _, _, _, _, _, _, _, _, _, _, _, _, _, _, _, _, _, _, _, _, _, _, _, _ => none
 | k + 1, x4, x5, x7, x9, x13, x414000, x414001, x414002, x414003, x424000, x424001, x424002, x424003, x451000, x451001, x451002, x451003, x452000, x452001, x452002, x452003, x453000, x453001, x453002, x453003 => if (x7 != x9) = true then (laws_FnVers.j4 k x4 true x414000 x414001 x414002 x414003 x451000 x451001 x451002 x451003 x452000 x452001 x452002 x452003 x453000 x453001 x453002 x453003) else (if x7 = true then ((impl_VerText.f k x424000 x424001 x424002 x424003).bind fun t456 => (if t456.toList = x5.toList then ((impl_VerOk.f k x414000 x414001 x414002 x414003).bind fun t457 => ((spec_VerOk.f k x414000 x414001 x414002 x414003).bind fun t458 => (if (t457 != t458) = true then (laws_FnVers.j4 k x4 true x414000 x414001 x414002 x414003 x451000 x451001 x451002 x451003 x452000 x452001 x452002 x452003 x453000 x453001 x453002 x453003) else (laws_FnVers.j4 k x4 (x13 != 1) x414000 x414001 x414002 x414003 x451000 x451001 x451002 x451003 x452000 x452001 x452002 x452003 x453000 x453001 x453002 x453003)))) else (laws_FnVers.j4 k x4 true x414000 x414001 x414002 x414003 x451000 x451001 x451002 x451003 x452000 x452001 x452002 x452003 x453000 x453001 x453002 x453003))) else ((impl_VerOk.f k x414000 x414001 x414002 x414003).bind fun t459 => ((spec_VerOk.f k x414000 x414001 x414002 x414003).bind fun t460 => (if (t459 != t460) = true then (laws_FnVers.j4 k x4 true x414000 x414001 x414002 x414003 x451000 x451001 x451002 x451003 x452000 x452001 x452002 x452003 x453000 x453001 x453002 x453003) else (laws_FnVers.j4 k x4 (x13 != 1) x414000 x414001 x414002 x414003 x451000 x451001 x451002 x451003 x452000 x452001 x452002 x452003 x453000 x453001 x453002 x453003)))))
def laws_FnVers.j4 : Nat → ByteArray → Bool → Int → Int → Int → List ByteArray → Int → Int → Int → List ByteArray → Int → Int → Int → List ByteArray → Int → Int → Int → List ByteArray → Option (Bool)
 | 0, _, _, _, _, _, _, _, _, _, _, _, _, _, _, _, _, _, _ => none
 | k + 1, x4, x77, x414000, x414001, x414002, x414003, x451000, x451001, x451002, x451003, x452000, x452001, x452002, x452003, x453000, x453001, x453002, x453003 => if x77 = true then (none) else (laws_FnVers.j5 k x4 x414000 x414001 x414002 x414003 x451000 x451001 x451002 x451003 x452000 x452001 x452002 x452003 x453000 x453001 x453002 x453003)
def laws_FnVers.j5 : Nat → ByteArray → Int → Int → Int → List ByteArray → Int → Int → Int → List ByteArray → Int → Int → Int → List ByteArray → Int → Int → Int → List ByteArray → Option (Bool)
 | 0, _, _, _, _, _, _, _, _, _, _, _, _, _, _, _, _, _ => none
 | k + 1, x4, x414000, x414001, x414002, x414003, x451000, x451001, x451002, x451003, x452000, x452001, x452002, x452003, x453000, x453001, x453002, x453003 => (impl_LessVer.f k x451000 x451001 x451002 x451003 x452000 x452001 x452002 x452003).bind fun t461 => (if t461 = true then ((impl_LessVer.f k x452000 x452001 x452002 x452003 x453000 x453001 x453002 x453003).bind fun t462 => (if t462 = true then ((impl_LessVer.f k x451000 x451001 x451002 x451003 x453000 x453001 x453002 x453003).bind fun t463 => (laws_FnVers.j6 k x4 (!t463) x414000 x414001 x414002 x414003)) else (laws_FnVers.j6 k x4 false x414000 x414001 x414002 x414003))) else (laws_FnVers.j6 k x4 false x414000 x414001 x414002 x414003))
def laws_FnVers.j6 : Nat → ByteArray → Bool → Int → Int → Int → List ByteArray → Option (Bool)
 | 0, _, _, _, _, _, _ => none
 | k + 1, x4, x91, x414000, x414001, x414002, x414003 => if x91 = true then (none) else (laws_FnVers.j7 k x4 x414000 x414001 x414002 x414003)
def laws_FnVers.j7 : Nat → ByteArray → Int → Int → Int → List ByteArray → Option (Bool)
 | 0, _, _, _, _, _ => none
 | k + 1, x4, x414000, x414001, x414002, x414003 => (impl_VerOk.f k x414000 x414001 x414002 x414003).bind fun t464 => (if t464 = true then ((impl_ParseVer.f k x4).bind fun bt465 => (if bt465.2.2.2.2 = true then ((laws_sameVer.f k bt465.1 bt465.2.1 bt465.2.2.1 bt465.2.2.2.1 x414000 x414001 x414002 x414003).bind fun t473 => (some t473)) else (none))) else (some (x4.toList == ([] : List UInt8))))
end
def laws_FnVers.f (k : Nat) (l0 : List Int) : Option (Bool) := (laws_big.f l0).bind fun t406 => (if t406 = true then (some true) else (laws_FnVers.j0 k l0))
def laws_FnVers.T16 : Bool × List (List Nat × List Nat) := (true, [([], []), ([], []), ([0, 1], [0, 1]), ([2], [2]), ([3], [3]), ([4, 3, 3], [3, 4]), ([5], [5]), ([6, 5, 5], [5, 6]), ([5], [5]), ([7, 8, 5], [5, 7, 8]), ([5, 9, 3], [3, 5, 9]), ([3, 10], [3, 10]), ([11, 7], [11]), ([12], [12]), ([13, 12, 12], [12, 13]), ([12], [12]), ([15, 14, 12], [12, 15]), ([14, 16, 12], [12, 14, 16]), ([12, 17], [12, 17]), ([18, 16], [18]), ([19], [19]), ([20, 19], [19, 20]), ([19, 21], [19, 21])])
def laws_FnVers.B16 : List Nat := [0, 0, 3, 7, 15, 31, 63, 127, 63, 511, 1023, 2047, 4095, 8191, 16383, 8191, 65535, 131071, 262143, 524287, 1048575, 2097151, 4194303]
theorem laws_FnVers.tab16 : rtab .any (opsOf Tryd.f3 16) = laws_FnVers.T16 := by kernel_rfl
theorem laws_FnVers.bits16 : waitsOk laws_FnVers.T16.2 laws_FnVers.B16 = true := by kernel_rfl
theorem laws_FnVers.calls (k : Nat) (A0 : Option Addr) (c0 : Nat) (l0 : List Int) (r : Bool) (w : World) (hr0 : Kd.C (Kd.int .u8) w A0 l0.length l0) (hc0 : l0.length ≤ c0) (hG : GW w) (h : laws_FnVers.f k l0 = some r) :
  Calls Tryd.prog 3 #[.slice A0 l0.length c0] w fun e w' => e = .returned (.bool r) ∧ Below w.heap.size w w' := by
 have hu26 := Tryd.underlying26
 have HR0 := Aside0.mk hr0
 have HC0 := Aside0.mk hc0
 clear hr0 hc0
 have HG := Aside0.mk hG
 clear hG
 have HB := zA (Below.refl w.heap.size w)
 have H : ((laws_big.f l0).bind fun t406 => (if t406 = true then (some true) else (laws_FnVers.j0 k l0))) = some r := h
 clear h
 replace H := Option.bind_eq_some_iff.mp H
 obtain ⟨t406, A20, H⟩ := H
 try dsimp only at H
 have A2 := Aside0.mk A20
 clear A20
 have HC3 := Aside0.mk H
 clear H
 go_enter Tryd.func3, Tryd.ntmps3
 go_upto_if 17 with (first | ((with_reducible refine zq 5 ?_); refine zg (some 17) Tryd.func5 #[.slice A0 l0.length c0] ?_; (with_reducible refine (laws_big.calls _ _ l0 t406 _ ?side1 ?side2 A2.out).mono ?_); (case side1 => repeat (first | exact HR0.out | (with_reducible refine Kd.C_alloc ?_ _) | (with_reducible refine Kd.C_drewN ?_ _) | (with_reducible refine Kd.C_drew ?_))); (case side2 => exact HC0.out); rintro e w' ⟨rfl, ⟨nd, rfl⟩⟩; refine ⟨_, rfl, ?_⟩))
 (try simp only [Act.put, zT])
 go_cut [] (fun wc => ∃ (kq : Nat), Aside0 (laws_FnVers.j0 kq l0 = some r) ∧ Aside0 (kq ≤ k) ∧ Aside0 (Below w.heap.size w wc))
 case first =>
  have H := HC3.out
  clear HC3
  by_cases c4 : t406 = true
  ·subst c4
   rw [if_pos rfl] at H
   obtain rfl := Option.some.inj H
   go_wp2
   go_ret
   exact ⟨zE, zB⟩
  ·replace c4 := Bool.eq_false_iff.mpr c4
   subst c4
   rw [if_neg zFT] at H
   have H' := Aside0.mk H
   clear H
   go_wp2
   go_meet
   case rel => exact ⟨_, (by first | exact H' | (subst_vars; exact H')), ⟨by first | omega | exact Nat.le_refl _⟩, ⟨zB⟩⟩
 case rest =>
  clear HC3
  try clear p2
  try clear c3
  try clear c4
  obtain ⟨kq, HA, HJ2, HB⟩ := hcut
  cases kq with
  | zero => exact absurd HA.out (by simp [laws_FnVers.j0])
  | succ kj2 =>
   have H := HA.out
   clear HA
   simp only [laws_FnVers.j0] at H
   replace H := Option.bind_eq_some_iff.mp H
   obtain ⟨⟨t407, t408, t409, t410⟩, A50, H⟩ := H
   try dsimp only at H
   have A5 := Aside0.mk A50
   clear A50
   replace H := Option.bind_eq_some_iff.mp H
   obtain ⟨t414, A60, H⟩ := H
   try dsimp only at H
   have A6 := Aside0.mk A60
   clear A60
   replace H := Option.bind_eq_some_iff.mp H
   obtain ⟨t415, A70, H⟩ := H
   try dsimp only at H
   have A7 := Aside0.mk A70
   clear A70
   replace H := Option.bind_eq_some_iff.mp H
   obtain ⟨⟨t416, t417, t418, t419, t422⟩, A80, H⟩ := H
   try dsimp only at H
   have A8 := Aside0.mk A80
   clear A80
   replace H := Option.bind_eq_some_iff.mp H
   obtain ⟨⟨t424, t425, t426, t427, t430⟩, A90, H⟩ := H
   try dsimp only at H
   have A9 := Aside0.mk A90
   clear A90
   replace H := Option.bind_eq_some_iff.mp H
   obtain ⟨⟨t432, t433, t434, t435, t438, t439, t440, t441, t444, t445, t446, t447⟩, A100, H⟩ := H
   try dsimp only at H
   have A10 := Aside0.mk A100
   clear A100
   replace H := Option.bind_eq_some_iff.mp H
   obtain ⟨t453, A110, H⟩ := H
   try dsimp only at H
   have A11 := Aside0.mk A110
   clear A110
   have HC12 := Aside0.mk H
   clear H
   go_upto_if 42 with (first | ((with_reducible refine zq 6 ?_); refine zg (some 19) Tryd.func6 #[.slice A0 l0.length c0] ?_; (with_reducible refine (spec_DrawVerText.calls kj2 _ _ l0 t407 t408 t409 t410 _ ?side1 ?side2 A5.out).mono ?_); (case side1 => exact zC (Kd.C_below HR0.out HB.out)); (case side2 => exact HC0.out); rintro e w13 ⟨v411, rfl, ho0, hb⟩; refine ⟨_, rfl, ?_⟩; have HO412 := zA (Kd.R_lower ho0 (below_size (zB))); replace HB := zA (below_step (zB) hb); (try clear hb ho0)) | ((with_reducible refine zd 3 ?_); refine ze 3 26 #[.int .i64 0, .int .i64 0, .int .i64 0, .slice none 0 0] ?_; intro gb413 hg w14 hbox hb; replace HO412 := zr HO412 hb; have BK413 := zA (hbox); have GW413 := zi HB hg; have GE413 := zi HB hg; replace HB := zA (below_step (zB) hb); clear hb hbox hg; obtain ⟨hcz15_0, hcz15_1, hcz15_2, hcz15_3, hfz15_0, hfz15_1, hfz15_2, hfz15_3⟩ := ze4 BK413.out; obtain ⟨Ao16, co16, eo16⟩ := Kd.R_slice HO412.out; subst eo16) | ((with_reducible refine zq 7 ?_); refine zg (some 21) Tryd.func7 #[.agg #[.int .i64 t407, .int .i64 t408, .int .i64 t409, .slice Ao16 t410.length co16]] ?_; (with_reducible refine (impl_VerText.calls kj2 t407 t408 t409 _ _ t410 t414 _ ?side1 ?side2 ?side3 A6.out).mono ?_); (case side1 => refine (Kd.R_reads' (e := 9) (base := w.heap.size) (ok := fun k_ => True) (n := t410.length) (c := co16) ?_).2.2; exact (zR (Kd.R_mono (Kd.R_far (p := ⟨gb413, 3, none⟩) (Kd.R_far (p := ⟨gb413, 2, none⟩) (Kd.R_far (p := ⟨gb413, 1, none⟩) (Kd.R_far (p := ⟨gb413, 0, none⟩) (Kd.R_types HO412.out BK413.out (by decide)) (fun _ hk => hk.2) (.int .i64 t407)) (fun _ hk => hk.2) (.int .i64 t408)) (fun _ hk => hk.2) (.int .i64 t409)) (fun _ hk => hk.2) (.slice Ao16 t410.length co16)) (fun _ h_ => h_.1)))); (case side2 => exact (Kd.R_reads' HO412.out).2.1); (case side3 => exact GW.below HG.out (zW HB.out)); rintro e w17 ⟨rfl, hb⟩; refine ⟨_, rfl, ?_⟩; replace HO412 := zA (Kd.R_below (zR (Kd.R_mono (Kd.R_far (p := ⟨gb413, 3, none⟩) (Kd.R_far (p := ⟨gb413, 2, none⟩) (Kd.R_far (p := ⟨gb413, 1, none⟩) (Kd.R_far (p := ⟨gb413, 0, none⟩) (Kd.R_types HO412.out BK413.out (by decide)) (fun _ hk => hk.2) (.int .i64 t407)) (fun _ hk => hk.2) (.int .i64 t408)) (fun _ hk => hk.2) (.int .i64 t409)) (fun _ hk => hk.2) (.slice Ao16 t410.length co16)) (fun _ h_ => h_.1))) hb); replace BK413 := zA (blk_below (g := gb413) (o := .cells #[.int .i64 t407, .int .i64 t408, .int .i64 t409, .slice Ao16 t410.length co16] 26 (0, 0)) (by (with_reducible repeat (first | refine blk_drewN ?_ _ | refine blk_drew ?_ | refine blk_alloc ?_ _)); refine blk_put (cs := #[.int .i64 t407, .int .i64 t408, .int .i64 t409, .slice none 0 0]) ?_ 3 _ rfl; (with_reducible repeat (first | refine blk_drewN ?_ _ | refine blk_drew ?_ | refine blk_alloc ?_ _)); refine blk_put (cs := #[.int .i64 t407, .int .i64 t408, .int .i64 0, .slice none 0 0]) ?_ 2 _ rfl; (with_reducible repeat (first | refine blk_drewN ?_ _ | refine blk_drew ?_ | refine blk_alloc ?_ _)); refine blk_put (cs := #[.int .i64 t407, .int .i64 0, .int .i64 0, .slice none 0 0]) ?_ 1 _ rfl; (with_reducible repeat (first | refine blk_drewN ?_ _ | refine blk_drew ?_ | refine blk_alloc ?_ _)); refine blk_put (cs := #[.int .i64 0, .int .i64 0, .int .i64 0, .slice none 0 0]) ?_ 0 _ rfl; (with_reducible repeat (first | refine blk_drewN ?_ _ | refine blk_drew ?_ | refine blk_alloc ?_ _)); exact BK413.out) hb); replace HB := zh HB hb; (try clear hb)) | ((with_reducible refine zq 8 ?_); refine zg (some 23) Tryd.func8 #[.slice A0 l0.length c0] ?_; (with_reducible refine (spec_DrawParseVer.calls kj2 _ _ l0 t415 _ ?side1 ?side2 A7.out).mono ?_); (case side1 => exact zC (Kd.C_below HR0.out HB.out)); (case side2 => exact HC0.out); rintro e w18 ⟨rfl, hb⟩; refine ⟨_, rfl, ?_⟩; replace HO412 := zr HO412 hb; replace BK413 := zb BK413 hb; replace HB := zh HB hb; (try clear hb)) | ((with_reducible refine zq 9 ?_); refine zg (some 26) Tryd.func9 #[.string t415] ?_; (with_reducible refine (impl_ParseVer.calls kj2 t415 t416 t417 t418 t419 t422 _ ?side1 A8.out).mono ?_); (case side1 => exact GW.below HG.out (zW HB.out)); rintro e w19 ⟨v420, rfl, ho0, hb⟩; refine ⟨_, rfl, ?_⟩; have HO421 := zA (Kd.R_lower (Kd.R_new' ho0 (Kd.R_lt (zR HO412.out))) (below_size (zW HB.out))); replace HO412 := zA (Kd.R_elder' (zR HO412.out) (Kd.R_base ho0) hb); replace BK413 := zb BK413 hb; replace HB := zh HB hb; (try clear hb ho0)) | ((with_reducible refine zd 6 ?_); refine ze 6 26 #[.int .i64 0, .int .i64 0, .int .i64 0, .slice none 0 0] ?_; intro gb423 hg w20 hbox hb; replace HO412 := zr HO412 hb; replace HO421 := zr HO421 hb; have BK423 := zA (hbox); have GW423 := zi HB hg; have GE423 := zi HB hg; replace HB := zh HB hb; have NB413_423 := zA (zL hg (zK BK413.out)); have NB423_413 := zA (zJ hg (zK BK413.out)); replace BK413 := zb BK413 hb; clear hb hbox hg; have hnb21 := NB423_413.out; have hnc21 := NB413_423.out; obtain ⟨hcz22_0, hcz22_1, hcz22_2, hcz22_3, hfz22_0, hfz22_1, hfz22_2, hfz22_3⟩ := ze4 BK423.out; obtain ⟨Ao23, co23, eo23⟩ := Kd.R_slice HO421.out; subst eo23) | ((with_reducible refine zq 10 ?_); refine zg (some 31) Tryd.func10 #[.string t415] ?_; (with_reducible refine (spec_ParseVer.calls kj2 t415 t424 t425 t426 t427 t430 _ A9.out).mono ?_); rintro e w24 ⟨v428, rfl, ho0, hb⟩; refine ⟨_, rfl, ?_⟩; have HO429 := zA (Kd.R_lower (Kd.R_new' (Kd.R_new' ho0 (Kd.R_lt (zR (Kd.R_mono (Kd.R_far (p := ⟨gb423, 3, none⟩) (Kd.R_far (p := ⟨gb423, 2, none⟩) (Kd.R_far (p := ⟨gb423, 1, none⟩) (Kd.R_far (p := ⟨gb423, 0, none⟩) (Kd.R_types HO412.out BK423.out (by decide)) (fun _ hk => hk.2) (.int .i64 t416)) (fun _ hk => hk.2) (.int .i64 t417)) (fun _ hk => hk.2) (.int .i64 t418)) (fun _ hk => hk.2) (.slice Ao23 t419.length co23)) (fun _ h_ => h_.1))))) (Kd.R_lt (zR (Kd.R_mono (Kd.R_far (p := ⟨gb423, 3, none⟩) (Kd.R_far (p := ⟨gb423, 2, none⟩) (Kd.R_far (p := ⟨gb423, 1, none⟩) (Kd.R_far (p := ⟨gb423, 0, none⟩) (Kd.R_types HO421.out BK423.out (by decide)) (fun _ hk => hk.2) (.int .i64 t416)) (fun _ hk => hk.2) (.int .i64 t417)) (fun _ hk => hk.2) (.int .i64 t418)) (fun _ hk => hk.2) (.slice Ao23 t419.length co23)) (fun _ h_ => h_.1))))) (below_size (zW HB.out))); replace HO412 := zA (Kd.R_elder' (zR (Kd.R_mono (Kd.R_far (p := ⟨gb423, 3, none⟩) (Kd.R_far (p := ⟨gb423, 2, none⟩) (Kd.R_far (p := ⟨gb423, 1, none⟩) (Kd.R_far (p := ⟨gb423, 0, none⟩) (Kd.R_types HO412.out BK423.out (by decide)) (fun _ hk => hk.2) (.int .i64 t416)) (fun _ hk => hk.2) (.int .i64 t417)) (fun _ hk => hk.2) (.int .i64 t418)) (fun _ hk => hk.2) (.slice Ao23 t419.length co23)) (fun _ h_ => h_.1))) (Kd.R_base ho0) hb); replace HO421 := zA (Kd.R_elder' (zR (Kd.R_mono (Kd.R_far (p := ⟨gb423, 3, none⟩) (Kd.R_far (p := ⟨gb423, 2, none⟩) (Kd.R_far (p := ⟨gb423, 1, none⟩) (Kd.R_far (p := ⟨gb423, 0, none⟩) (Kd.R_types HO421.out BK423.out (by decide)) (fun _ hk => hk.2) (.int .i64 t416)) (fun _ hk => hk.2) (.int .i64 t417)) (fun _ hk => hk.2) (.int .i64 t418)) (fun _ hk => hk.2) (.slice Ao23 t419.length co23)) (fun _ h_ => h_.1))) (Kd.R_base ho0) hb); replace BK413 := zb BK413 hb; replace BK423 := zA (blk_below (g := gb423) (o := .cells #[.int .i64 t416, .int .i64 t417, .int .i64 t418, .slice Ao23 t419.length co23] 26 (0, 0)) (by (with_reducible repeat (first | refine blk_drewN ?_ _ | refine blk_drew ?_ | refine blk_alloc ?_ _)); refine blk_put (cs := #[.int .i64 t416, .int .i64 t417, .int .i64 t418, .slice none 0 0]) ?_ 3 _ rfl; (with_reducible repeat (first | refine blk_drewN ?_ _ | refine blk_drew ?_ | refine blk_alloc ?_ _)); refine blk_put (cs := #[.int .i64 t416, .int .i64 t417, .int .i64 0, .slice none 0 0]) ?_ 2 _ rfl; (with_reducible repeat (first | refine blk_drewN ?_ _ | refine blk_drew ?_ | refine blk_alloc ?_ _)); refine blk_put (cs := #[.int .i64 t416, .int .i64 0, .int .i64 0, .slice none 0 0]) ?_ 1 _ rfl; (with_reducible repeat (first | refine blk_drewN ?_ _ | refine blk_drew ?_ | refine blk_alloc ?_ _)); refine blk_put (cs := #[.int .i64 0, .int .i64 0, .int .i64 0, .slice none 0 0]) ?_ 0 _ rfl; (with_reducible repeat (first | refine blk_drewN ?_ _ | refine blk_drew ?_ | refine blk_alloc ?_ _)); exact BK423.out) hb); replace HB := zh HB hb; (try clear hb ho0)) | ((with_reducible refine zd 8 ?_); refine ze 8 26 #[.int .i64 0, .int .i64 0, .int .i64 0, .slice none 0 0] ?_; intro gb431 hg w25 hbox hb; replace HO412 := zr HO412 hb; replace HO421 := zr HO421 hb; replace HO429 := zr HO429 hb; have BK431 := zA (hbox); have GW431 := zi HB hg; have GE431 := zi HB hg; replace HB := zh HB hb; have NB413_431 := zA (zL hg (zK BK413.out)); have NB431_413 := zA (zJ hg (zK BK413.out)); replace BK413 := zb BK413 hb; have NB423_431 := zA (zL hg (zK BK423.out)); have NB431_423 := zA (zJ hg (zK BK423.out)); replace BK423 := zb BK423 hb; clear hb hbox hg; have hnb26 := NB431_413.out; have hnc26 := NB413_431.out; have hnb27 := NB431_423.out; have hnc27 := NB423_431.out; obtain ⟨hcz28_0, hcz28_1, hcz28_2, hcz28_3, hfz28_0, hfz28_1, hfz28_2, hfz28_3⟩ := ze4 BK431.out; obtain ⟨Ao29, co29, eo29⟩ := Kd.R_slice HO429.out; subst eo29) | ((with_reducible refine zq 11 ?_); refine zg (some 36) Tryd.func11 #[.slice A0 l0.length c0] ?_; (with_reducible refine (spec_DrawVers.calls kj2 _ _ l0 t432 t433 t434 t435 t438 t439 t440 t441 t444 t445 t446 t447 _ ?side1 ?side2 A10.out).mono ?_); (case side1 => exact Kd.C_below HR0.out (zW HB.out)); (case side2 => exact HC0.out); rintro e w30 ⟨v436, v442, v448, rfl, ho0, ho1, ho2, hb⟩; refine ⟨_, rfl, ?_⟩; have HO437 := zA (Kd.R_lower (Kd.R_new' (Kd.R_new' (Kd.R_new' ho0 (Kd.R_lt (zR (Kd.R_mono (Kd.R_far (p := ⟨gb431, 3, none⟩) (Kd.R_far (p := ⟨gb431, 2, none⟩) (Kd.R_far (p := ⟨gb431, 1, none⟩) (Kd.R_far (p := ⟨gb431, 0, none⟩) (Kd.R_types HO412.out BK431.out (by decide)) (fun _ hk => hk.2) (.int .i64 t424)) (fun _ hk => hk.2) (.int .i64 t425)) (fun _ hk => hk.2) (.int .i64 t426)) (fun _ hk => hk.2) (.slice Ao29 t427.length co29)) (fun _ h_ => h_.1))))) (Kd.R_lt (zR (Kd.R_mono (Kd.R_far (p := ⟨gb431, 3, none⟩) (Kd.R_far (p := ⟨gb431, 2, none⟩) (Kd.R_far (p := ⟨gb431, 1, none⟩) (Kd.R_far (p := ⟨gb431, 0, none⟩) (Kd.R_types HO421.out BK431.out (by decide)) (fun _ hk => hk.2) (.int .i64 t424)) (fun _ hk => hk.2) (.int .i64 t425)) (fun _ hk => hk.2) (.int .i64 t426)) (fun _ hk => hk.2) (.slice Ao29 t427.length co29)) (fun _ h_ => h_.1))))) (Kd.R_lt (zR (Kd.R_mono (Kd.R_far (p := ⟨gb431, 3, none⟩) (Kd.R_far (p := ⟨gb431, 2, none⟩) (Kd.R_far (p := ⟨gb431, 1, none⟩) (Kd.R_far (p := ⟨gb431, 0, none⟩) (Kd.R_types HO429.out BK431.out (by decide)) (fun _ hk => hk.2) (.int .i64 t424)) (fun _ hk => hk.2) (.int .i64 t425)) (fun _ hk => hk.2) (.int .i64 t426)) (fun _ hk => hk.2) (.slice Ao29 t427.length co29)) (fun _ h_ => h_.1))))) (below_size (zW HB.out))); have HO443 := zA (Kd.R_lower (Kd.R_new' (Kd.R_new' (Kd.R_new' ho1 (Kd.R_lt (zR (Kd.R_mono (Kd.R_far (p := ⟨gb431, 3, none⟩) (Kd.R_far (p := ⟨gb431, 2, none⟩) (Kd.R_far (p := ⟨gb431, 1, none⟩) (Kd.R_far (p := ⟨gb431, 0, none⟩) (Kd.R_types HO412.out BK431.out (by decide)) (fun _ hk => hk.2) (.int .i64 t424)) (fun _ hk => hk.2) (.int .i64 t425)) (fun _ hk => hk.2) (.int .i64 t426)) (fun _ hk => hk.2) (.slice Ao29 t427.length co29)) (fun _ h_ => h_.1))))) (Kd.R_lt (zR (Kd.R_mono (Kd.R_far (p := ⟨gb431, 3, none⟩) (Kd.R_far (p := ⟨gb431, 2, none⟩) (Kd.R_far (p := ⟨gb431, 1, none⟩) (Kd.R_far (p := ⟨gb431, 0, none⟩) (Kd.R_types HO421.out BK431.out (by decide)) (fun _ hk => hk.2) (.int .i64 t424)) (fun _ hk => hk.2) (.int .i64 t425)) (fun _ hk => hk.2) (.int .i64 t426)) (fun _ hk => hk.2) (.slice Ao29 t427.length co29)) (fun _ h_ => h_.1))))) (Kd.R_lt (zR (Kd.R_mono (Kd.R_far (p := ⟨gb431, 3, none⟩) (Kd.R_far (p := ⟨gb431, 2, none⟩) (Kd.R_far (p := ⟨gb431, 1, none⟩) (Kd.R_far (p := ⟨gb431, 0, none⟩) (Kd.R_types HO429.out BK431.out (by decide)) (fun _ hk => hk.2) (.int .i64 t424)) (fun _ hk => hk.2) (.int .i64 t425)) (fun _ hk => hk.2) (.int .i64 t426)) (fun _ hk => hk.2) (.slice Ao29 t427.length co29)) (fun _ h_ => h_.1))))) (below_size (zW HB.out))); have HO449 := zA (Kd.R_lower (Kd.R_new' (Kd.R_new' (Kd.R_new' ho2 (Kd.R_lt (zR (Kd.R_mono (Kd.R_far (p := ⟨gb431, 3, none⟩) (Kd.R_far (p := ⟨gb431, 2, none⟩) (Kd.R_far (p := ⟨gb431, 1, none⟩) (Kd.R_far (p := ⟨gb431, 0, none⟩) (Kd.R_types HO412.out BK431.out (by decide)) (fun _ hk => hk.2) (.int .i64 t424)) (fun _ hk => hk.2) (.int .i64 t425)) (fun _ hk => hk.2) (.int .i64 t426)) (fun _ hk => hk.2) (.slice Ao29 t427.length co29)) (fun _ h_ => h_.1))))) (Kd.R_lt (zR (Kd.R_mono (Kd.R_far (p := ⟨gb431, 3, none⟩) (Kd.R_far (p := ⟨gb431, 2, none⟩) (Kd.R_far (p := ⟨gb431, 1, none⟩) (Kd.R_far (p := ⟨gb431, 0, none⟩) (Kd.R_types HO421.out BK431.out (by decide)) (fun _ hk => hk.2) (.int .i64 t424)) (fun _ hk => hk.2) (.int .i64 t425)) (fun _ hk => hk.2) (.int .i64 t426)) (fun _ hk => hk.2) (.slice Ao29 t427.length co29)) (fun _ h_ => h_.1))))) (Kd.R_lt (zR (Kd.R_mono (Kd.R_far (p := ⟨gb431, 3, none⟩) (Kd.R_far (p := ⟨gb431, 2, none⟩) (Kd.R_far (p := ⟨gb431, 1, none⟩) (Kd.R_far (p := ⟨gb431, 0, none⟩) (Kd.R_types HO429.out BK431.out (by decide)) (fun _ hk => hk.2) (.int .i64 t424)) (fun _ hk => hk.2) (.int .i64 t425)) (fun _ hk => hk.2) (.int .i64 t426)) (fun _ hk => hk.2) (.slice Ao29 t427.length co29)) (fun _ h_ => h_.1))))) (below_size (zW HB.out))); replace HO412 := zA (Kd.R_mono (Kd.R_told (Kd.R_told (Kd.R_told (Kd.R_old (zR (Kd.R_mono (Kd.R_far (p := ⟨gb431, 3, none⟩) (Kd.R_far (p := ⟨gb431, 2, none⟩) (Kd.R_far (p := ⟨gb431, 1, none⟩) (Kd.R_far (p := ⟨gb431, 0, none⟩) (Kd.R_types HO412.out BK431.out (by decide)) (fun _ hk => hk.2) (.int .i64 t424)) (fun _ hk => hk.2) (.int .i64 t425)) (fun _ hk => hk.2) (.int .i64 t426)) (fun _ hk => hk.2) (.slice Ao29 t427.length co29)) (fun _ h_ => h_.1))) hb) (Kd.R_base ho0)) (Kd.R_base ho1)) (Kd.R_base ho2)) (fun _ h_ => h_.1)); replace HO421 := zA (Kd.R_mono (Kd.R_told (Kd.R_told (Kd.R_told (Kd.R_old (zR (Kd.R_mono (Kd.R_far (p := ⟨gb431, 3, none⟩) (Kd.R_far (p := ⟨gb431, 2, none⟩) (Kd.R_far (p := ⟨gb431, 1, none⟩) (Kd.R_far (p := ⟨gb431, 0, none⟩) (Kd.R_types HO421.out BK431.out (by decide)) (fun _ hk => hk.2) (.int .i64 t424)) (fun _ hk => hk.2) (.int .i64 t425)) (fun _ hk => hk.2) (.int .i64 t426)) (fun _ hk => hk.2) (.slice Ao29 t427.length co29)) (fun _ h_ => h_.1))) hb) (Kd.R_base ho0)) (Kd.R_base ho1)) (Kd.R_base ho2)) (fun _ h_ => h_.1)); replace HO429 := zA (Kd.R_mono (Kd.R_told (Kd.R_told (Kd.R_told (Kd.R_old (zR (Kd.R_mono (Kd.R_far (p := ⟨gb431, 3, none⟩) (Kd.R_far (p := ⟨gb431, 2, none⟩) (Kd.R_far (p := ⟨gb431, 1, none⟩) (Kd.R_far (p := ⟨gb431, 0, none⟩) (Kd.R_types HO429.out BK431.out (by decide)) (fun _ hk => hk.2) (.int .i64 t424)) (fun _ hk => hk.2) (.int .i64 t425)) (fun _ hk => hk.2) (.int .i64 t426)) (fun _ hk => hk.2) (.slice Ao29 t427.length co29)) (fun _ h_ => h_.1))) hb) (Kd.R_base ho0)) (Kd.R_base ho1)) (Kd.R_base ho2)) (fun _ h_ => h_.1)); replace BK413 := zb BK413 hb; replace BK423 := zb BK423 hb; replace BK431 := zA (blk_below (g := gb431) (o := .cells #[.int .i64 t424, .int .i64 t425, .int .i64 t426, .slice Ao29 t427.length co29] 26 (0, 0)) (by (with_reducible repeat (first | refine blk_drewN ?_ _ | refine blk_drew ?_ | refine blk_alloc ?_ _)); refine blk_put (cs := #[.int .i64 t424, .int .i64 t425, .int .i64 t426, .slice none 0 0]) ?_ 3 _ rfl; (with_reducible repeat (first | refine blk_drewN ?_ _ | refine blk_drew ?_ | refine blk_alloc ?_ _)); refine blk_put (cs := #[.int .i64 t424, .int .i64 t425, .int .i64 0, .slice none 0 0]) ?_ 2 _ rfl; (with_reducible repeat (first | refine blk_drewN ?_ _ | refine blk_drew ?_ | refine blk_alloc ?_ _)); refine blk_put (cs := #[.int .i64 t424, .int .i64 0, .int .i64 0, .slice none 0 0]) ?_ 1 _ rfl; (with_reducible repeat (first | refine blk_drewN ?_ _ | refine blk_drew ?_ | refine blk_alloc ?_ _)); refine blk_put (cs := #[.int .i64 0, .int .i64 0, .int .i64 0, .slice none 0 0]) ?_ 0 _ rfl; (with_reducible repeat (first | refine blk_drewN ?_ _ | refine blk_drew ?_ | refine blk_alloc ?_ _)); exact BK431.out) hb); replace HB := zh HB hb; (try clear hb ho0 ho1 ho2)) | ((with_reducible refine zd 10 ?_); refine ze 10 26 #[.int .i64 0, .int .i64 0, .int .i64 0, .slice none 0 0] ?_; intro gb450 hg w31 hbox hb; replace HO412 := zr HO412 hb; replace HO421 := zr HO421 hb; replace HO429 := zr HO429 hb; replace HO437 := zr HO437 hb; replace HO443 := zr HO443 hb; replace HO449 := zr HO449 hb; have BK450 := zA (hbox); have GW450 := zi HB hg; have GE450 := zi HB hg; replace HB := zh HB hb; have NB413_450 := zA (zL hg (zK BK413.out)); have NB450_413 := zA (zJ hg (zK BK413.out)); replace BK413 := zb BK413 hb; have NB423_450 := zA (zL hg (zK BK423.out)); have NB450_423 := zA (zJ hg (zK BK423.out)); replace BK423 := zb BK423 hb; have NB431_450 := zA (zL hg (zK BK431.out)); have NB450_431 := zA (zJ hg (zK BK431.out)); replace BK431 := zb BK431 hb; clear hb hbox hg) | ((with_reducible refine zd 11 ?_); refine ze 11 26 #[.int .i64 0, .int .i64 0, .int .i64 0, .slice none 0 0] ?_; intro gb451 hg w32 hbox hb; replace HO412 := zr HO412 hb; replace HO421 := zr HO421 hb; replace HO429 := zr HO429 hb; replace HO437 := zr HO437 hb; replace HO443 := zr HO443 hb; replace HO449 := zr HO449 hb; have BK451 := zA (hbox); have GW451 := zi HB hg; have GE451 := zi HB hg; replace HB := zh HB hb; have NB413_451 := zA (zL hg (zK BK413.out)); have NB451_413 := zA (zJ hg (zK BK413.out)); replace BK413 := zb BK413 hb; have NB423_451 := zA (zL hg (zK BK423.out)); have NB451_423 := zA (zJ hg (zK BK423.out)); replace BK423 := zb BK423 hb; have NB431_451 := zA (zL hg (zK BK431.out)); have NB451_431 := zA (zJ hg (zK BK431.out)); replace BK431 := zb BK431 hb; have NB450_451 := zA (zL hg (zK BK450.out)); have NB451_450 := zA (zJ hg (zK BK450.out)); replace BK450 := zb BK450 hb; clear hb hbox hg) | ((with_reducible refine zd 12 ?_); refine ze 12 26 #[.int .i64 0, .int .i64 0, .int .i64 0, .slice none 0 0] ?_; intro gb452 hg w33 hbox hb; replace HO412 := zr HO412 hb; replace HO421 := zr HO421 hb; replace HO429 := zr HO429 hb; replace HO437 := zr HO437 hb; replace HO443 := zr HO443 hb; replace HO449 := zr HO449 hb; have BK452 := zA (hbox); have GW452 := zi HB hg; have GE452 := zi HB hg; replace HB := zh HB hb; have NB413_452 := zA (zL hg (zK BK413.out)); have NB452_413 := zA (zJ hg (zK BK413.out)); replace BK413 := zb BK413 hb; have NB423_452 := zA (zL hg (zK BK423.out)); have NB452_423 := zA (zJ hg (zK BK423.out)); replace BK423 := zb BK423 hb; have NB431_452 := zA (zL hg (zK BK431.out)); have NB452_431 := zA (zJ hg (zK BK431.out)); replace BK431 := zb BK431 hb; have NB450_452 := zA (zL hg (zK BK450.out)); have NB452_450 := zA (zJ hg (zK BK450.out)); replace BK450 := zb BK450 hb; have NB451_452 := zA (zL hg (zK BK451.out)); have NB452_451 := zA (zJ hg (zK BK451.out)); replace BK451 := zb BK451 hb; clear hb hbox hg; have hnb34 := NB450_413.out; have hnc34 := NB413_450.out; have hnb35 := NB450_423.out; have hnc35 := NB423_450.out; have hnb36 := NB450_431.out; have hnc36 := NB431_450.out; have hnb37 := NB450_451.out; have hnc37 := NB451_450.out; have hnb38 := NB450_452.out; have hnc38 := NB452_450.out; obtain ⟨hcz39_0, hcz39_1, hcz39_2, hcz39_3, hfz39_0, hfz39_1, hfz39_2, hfz39_3⟩ := ze4 BK450.out; obtain ⟨Ao40, co40, eo40⟩ := Kd.R_slice HO437.out; subst eo40; have hnb41 := NB451_413.out; have hnc41 := NB413_451.out; have hnb42 := NB451_423.out; have hnc42 := NB423_451.out; have hnb43 := NB451_431.out; have hnc43 := NB431_451.out; have hnb44 := NB451_452.out; have hnc44 := NB452_451.out; obtain ⟨hcz45_0, hcz45_1, hcz45_2, hcz45_3, hfz45_0, hfz45_1, hfz45_2, hfz45_3⟩ := ze4 BK451.out; obtain ⟨Ao46, co46, eo46⟩ := Kd.R_slice HO443.out; subst eo46; have hnb47 := NB452_413.out; have hnc47 := NB413_452.out; have hnb48 := NB452_423.out; have hnc48 := NB423_452.out; have hnb49 := NB452_431.out; have hnc49 := NB431_452.out; obtain ⟨hcz50_0, hcz50_1, hcz50_2, hcz50_3, hfz50_0, hfz50_1, hfz50_2, hfz50_3⟩ := ze4 BK452.out; obtain ⟨Ao51, co51, eo51⟩ := Kd.R_slice HO449.out; subst eo51) | ((with_reducible refine zq 12 ?_); refine zg (some 42) Tryd.func12 #[.agg #[.int .i64 t432, .int .i64 t433, .int .i64 t434, .slice Ao40 t435.length co40], .agg #[.int .i64 t438, .int .i64 t439, .int .i64 t440, .slice Ao46 t441.length co46]] ?_; (with_reducible refine (impl_LessVer.calls kj2 t432 t433 t434 _ _ t435 t438 t439 t440 _ _ t441 t453 _ ?side1 ?side2 ?side3 ?side4 A11.out).mono ?_); (case side1 => refine (Kd.R_reads' (e := 9) (base := w.heap.size) (ok := fun k_ => ((((some k_ ≠ (.slice Ao46 t441.length co46 : Value).ownBlock ∧ some k_ ≠ (.slice Ao51 t447.length co51 : Value).ownBlock) ∧ some k_ ≠ (.slice Ao16 t410.length co16 : Value).ownBlock) ∧ some k_ ≠ (.slice Ao23 t419.length co23 : Value).ownBlock) ∧ some k_ ≠ (.slice Ao29 t427.length co29 : Value).ownBlock)) (n := t435.length) (c := co40) ?_).2.2; exact (zR (Kd.R_mono (Kd.R_mono (Kd.R_mono (Kd.R_far (p := ⟨gb452, 3, none⟩) (Kd.R_far (p := ⟨gb452, 2, none⟩) (Kd.R_far (p := ⟨gb452, 1, none⟩) (Kd.R_far (p := ⟨gb452, 0, none⟩) (Kd.R_far (p := ⟨gb451, 3, none⟩) (Kd.R_far (p := ⟨gb451, 2, none⟩) (Kd.R_far (p := ⟨gb451, 1, none⟩) (Kd.R_far (p := ⟨gb451, 0, none⟩) (Kd.R_far (p := ⟨gb450, 3, none⟩) (Kd.R_far (p := ⟨gb450, 2, none⟩) (Kd.R_far (p := ⟨gb450, 1, none⟩) (Kd.R_far (p := ⟨gb450, 0, none⟩) (Kd.R_types (Kd.R_types (Kd.R_types HO437.out BK450.out (by decide)) BK451.out (by decide)) BK452.out (by decide)) (fun _ hk => hk.1.1.2) (.int .i64 t432)) (fun _ hk => hk.1.1.2) (.int .i64 t433)) (fun _ hk => hk.1.1.2) (.int .i64 t434)) (fun _ hk => hk.1.1.2) (.slice Ao40 t435.length co40)) (fun _ hk => hk.1.2) (.int .i64 t438)) (fun _ hk => hk.1.2) (.int .i64 t439)) (fun _ hk => hk.1.2) (.int .i64 t440)) (fun _ hk => hk.1.2) (.slice Ao46 t441.length co46)) (fun _ hk => hk.2) (.int .i64 t444)) (fun _ hk => hk.2) (.int .i64 t445)) (fun _ hk => hk.2) (.int .i64 t446)) (fun _ hk => hk.2) (.slice Ao51 t447.length co51)) (fun _ h_ => h_.1)) (fun _ h_ => h_.1)) (fun _ h_ => h_.1)))); (case side2 => exact (Kd.R_reads' HO437.out).2.1); (case side3 => refine (Kd.R_reads' (e := 9) (base := w.heap.size) (ok := fun k_ => ((((some k_ ≠ (.slice Ao40 t435.length co40 : Value).ownBlock ∧ some k_ ≠ (.slice Ao51 t447.length co51 : Value).ownBlock) ∧ some k_ ≠ (.slice Ao16 t410.length co16 : Value).ownBlock) ∧ some k_ ≠ (.slice Ao23 t419.length co23 : Value).ownBlock) ∧ some k_ ≠ (.slice Ao29 t427.length co29 : Value).ownBlock)) (n := t441.length) (c := co46) ?_).2.2; exact (zR (Kd.R_mono (Kd.R_mono (Kd.R_mono (Kd.R_far (p := ⟨gb452, 3, none⟩) (Kd.R_far (p := ⟨gb452, 2, none⟩) (Kd.R_far (p := ⟨gb452, 1, none⟩) (Kd.R_far (p := ⟨gb452, 0, none⟩) (Kd.R_far (p := ⟨gb451, 3, none⟩) (Kd.R_far (p := ⟨gb451, 2, none⟩) (Kd.R_far (p := ⟨gb451, 1, none⟩) (Kd.R_far (p := ⟨gb451, 0, none⟩) (Kd.R_far (p := ⟨gb450, 3, none⟩) (Kd.R_far (p := ⟨gb450, 2, none⟩) (Kd.R_far (p := ⟨gb450, 1, none⟩) (Kd.R_far (p := ⟨gb450, 0, none⟩) (Kd.R_types (Kd.R_types (Kd.R_types HO443.out BK450.out (by decide)) BK451.out (by decide)) BK452.out (by decide)) (fun _ hk => hk.1.1.2) (.int .i64 t432)) (fun _ hk => hk.1.1.2) (.int .i64 t433)) (fun _ hk => hk.1.1.2) (.int .i64 t434)) (fun _ hk => hk.1.1.2) (.slice Ao40 t435.length co40)) (fun _ hk => hk.1.2) (.int .i64 t438)) (fun _ hk => hk.1.2) (.int .i64 t439)) (fun _ hk => hk.1.2) (.int .i64 t440)) (fun _ hk => hk.1.2) (.slice Ao46 t441.length co46)) (fun _ hk => hk.2) (.int .i64 t444)) (fun _ hk => hk.2) (.int .i64 t445)) (fun _ hk => hk.2) (.int .i64 t446)) (fun _ hk => hk.2) (.slice Ao51 t447.length co51)) (fun _ h_ => h_.1)) (fun _ h_ => h_.1)) (fun _ h_ => h_.1)))); (case side4 => exact (Kd.R_reads' HO443.out).2.1); rintro e w52 ⟨rfl, hb⟩; refine ⟨_, rfl, ?_⟩; replace HO412 := zA (Kd.R_below (zR (Kd.R_mono (Kd.R_mono (Kd.R_mono (Kd.R_far (p := ⟨gb452, 3, none⟩) (Kd.R_far (p := ⟨gb452, 2, none⟩) (Kd.R_far (p := ⟨gb452, 1, none⟩) (Kd.R_far (p := ⟨gb452, 0, none⟩) (Kd.R_far (p := ⟨gb451, 3, none⟩) (Kd.R_far (p := ⟨gb451, 2, none⟩) (Kd.R_far (p := ⟨gb451, 1, none⟩) (Kd.R_far (p := ⟨gb451, 0, none⟩) (Kd.R_far (p := ⟨gb450, 3, none⟩) (Kd.R_far (p := ⟨gb450, 2, none⟩) (Kd.R_far (p := ⟨gb450, 1, none⟩) (Kd.R_far (p := ⟨gb450, 0, none⟩) (Kd.R_types (Kd.R_types (Kd.R_types HO412.out BK450.out (by decide)) BK451.out (by decide)) BK452.out (by decide)) (fun _ hk => hk.1.1.2) (.int .i64 t432)) (fun _ hk => hk.1.1.2) (.int .i64 t433)) (fun _ hk => hk.1.1.2) (.int .i64 t434)) (fun _ hk => hk.1.1.2) (.slice Ao40 t435.length co40)) (fun _ hk => hk.1.2) (.int .i64 t438)) (fun _ hk => hk.1.2) (.int .i64 t439)) (fun _ hk => hk.1.2) (.int .i64 t440)) (fun _ hk => hk.1.2) (.slice Ao46 t441.length co46)) (fun _ hk => hk.2) (.int .i64 t444)) (fun _ hk => hk.2) (.int .i64 t445)) (fun _ hk => hk.2) (.int .i64 t446)) (fun _ hk => hk.2) (.slice Ao51 t447.length co51)) (fun _ h_ => h_.1)) (fun _ h_ => h_.1)) (fun _ h_ => h_.1))) hb); replace HO421 := zA (Kd.R_below (zR (Kd.R_mono (Kd.R_mono (Kd.R_mono (Kd.R_far (p := ⟨gb452, 3, none⟩) (Kd.R_far (p := ⟨gb452, 2, none⟩) (Kd.R_far (p := ⟨gb452, 1, none⟩) (Kd.R_far (p := ⟨gb452, 0, none⟩) (Kd.R_far (p := ⟨gb451, 3, none⟩) (Kd.R_far (p := ⟨gb451, 2, none⟩) (Kd.R_far (p := ⟨gb451, 1, none⟩) (Kd.R_far (p := ⟨gb451, 0, none⟩) (Kd.R_far (p := ⟨gb450, 3, none⟩) (Kd.R_far (p := ⟨gb450, 2, none⟩) (Kd.R_far (p := ⟨gb450, 1, none⟩) (Kd.R_far (p := ⟨gb450, 0, none⟩) (Kd.R_types (Kd.R_types (Kd.R_types HO421.out BK450.out (by decide)) BK451.out (by decide)) BK452.out (by decide)) (fun _ hk => hk.1.1.2) (.int .i64 t432)) (fun _ hk => hk.1.1.2) (.int .i64 t433)) (fun _ hk => hk.1.1.2) (.int .i64 t434)) (fun _ hk => hk.1.1.2) (.slice Ao40 t435.length co40)) (fun _ hk => hk.1.2) (.int .i64 t438)) (fun _ hk => hk.1.2) (.int .i64 t439)) (fun _ hk => hk.1.2) (.int .i64 t440)) (fun _ hk => hk.1.2) (.slice Ao46 t441.length co46)) (fun _ hk => hk.2) (.int .i64 t444)) (fun _ hk => hk.2) (.int .i64 t445)) (fun _ hk => hk.2) (.int .i64 t446)) (fun _ hk => hk.2) (.slice Ao51 t447.length co51)) (fun _ h_ => h_.1)) (fun _ h_ => h_.1)) (fun _ h_ => h_.1))) hb); replace HO429 := zA (Kd.R_below (zR (Kd.R_mono (Kd.R_mono (Kd.R_mono (Kd.R_far (p := ⟨gb452, 3, none⟩) (Kd.R_far (p := ⟨gb452, 2, none⟩) (Kd.R_far (p := ⟨gb452, 1, none⟩) (Kd.R_far (p := ⟨gb452, 0, none⟩) (Kd.R_far (p := ⟨gb451, 3, none⟩) (Kd.R_far (p := ⟨gb451, 2, none⟩) (Kd.R_far (p := ⟨gb451, 1, none⟩) (Kd.R_far (p := ⟨gb451, 0, none⟩) (Kd.R_far (p := ⟨gb450, 3, none⟩) (Kd.R_far (p := ⟨gb450, 2, none⟩) (Kd.R_far (p := ⟨gb450, 1, none⟩) (Kd.R_far (p := ⟨gb450, 0, none⟩) (Kd.R_types (Kd.R_types (Kd.R_types HO429.out BK450.out (by decide)) BK451.out (by decide)) BK452.out (by decide)) (fun _ hk => hk.1.1.2) (.int .i64 t432)) (fun _ hk => hk.1.1.2) (.int .i64 t433)) (fun _ hk => hk.1.1.2) (.int .i64 t434)) (fun _ hk => hk.1.1.2) (.slice Ao40 t435.length co40)) (fun _ hk => hk.1.2) (.int .i64 t438)) (fun _ hk => hk.1.2) (.int .i64 t439)) (fun _ hk => hk.1.2) (.int .i64 t440)) (fun _ hk => hk.1.2) (.slice Ao46 t441.length co46)) (fun _ hk => hk.2) (.int .i64 t444)) (fun _ hk => hk.2) (.int .i64 t445)) (fun _ hk => hk.2) (.int .i64 t446)) (fun _ hk => hk.2) (.slice Ao51 t447.length co51)) (fun _ h_ => h_.1)) (fun _ h_ => h_.1)) (fun _ h_ => h_.1))) hb); replace HO437 := zA (Kd.R_below (zR (Kd.R_mono (Kd.R_mono (Kd.R_mono (Kd.R_far (p := ⟨gb452, 3, none⟩) (Kd.R_far (p := ⟨gb452, 2, none⟩) (Kd.R_far (p := ⟨gb452, 1, none⟩) (Kd.R_far (p := ⟨gb452, 0, none⟩) (Kd.R_far (p := ⟨gb451, 3, none⟩) (Kd.R_far (p := ⟨gb451, 2, none⟩) (Kd.R_far (p := ⟨gb451, 1, none⟩) (Kd.R_far (p := ⟨gb451, 0, none⟩) (Kd.R_far (p := ⟨gb450, 3, none⟩) (Kd.R_far (p := ⟨gb450, 2, none⟩) (Kd.R_far (p := ⟨gb450, 1, none⟩) (Kd.R_far (p := ⟨gb450, 0, none⟩) (Kd.R_types (Kd.R_types (Kd.R_types HO437.out BK450.out (by decide)) BK451.out (by decide)) BK452.out (by decide)) (fun _ hk => hk.1.1.2) (.int .i64 t432)) (fun _ hk => hk.1.1.2) (.int .i64 t433)) (fun _ hk => hk.1.1.2) (.int .i64 t434)) (fun _ hk => hk.1.1.2) (.slice Ao40 t435.length co40)) (fun _ hk => hk.1.2) (.int .i64 t438)) (fun _ hk => hk.1.2) (.int .i64 t439)) (fun _ hk => hk.1.2) (.int .i64 t440)) (fun _ hk => hk.1.2) (.slice Ao46 t441.length co46)) (fun _ hk => hk.2) (.int .i64 t444)) (fun _ hk => hk.2) (.int .i64 t445)) (fun _ hk => hk.2) (.int .i64 t446)) (fun _ hk => hk.2) (.slice Ao51 t447.length co51)) (fun _ h_ => h_.1)) (fun _ h_ => h_.1)) (fun _ h_ => h_.1))) hb); replace HO443 := zA (Kd.R_below (zR (Kd.R_mono (Kd.R_mono (Kd.R_mono (Kd.R_far (p := ⟨gb452, 3, none⟩) (Kd.R_far (p := ⟨gb452, 2, none⟩) (Kd.R_far (p := ⟨gb452, 1, none⟩) (Kd.R_far (p := ⟨gb452, 0, none⟩) (Kd.R_far (p := ⟨gb451, 3, none⟩) (Kd.R_far (p := ⟨gb451, 2, none⟩) (Kd.R_far (p := ⟨gb451, 1, none⟩) (Kd.R_far (p := ⟨gb451, 0, none⟩) (Kd.R_far (p := ⟨gb450, 3, none⟩) (Kd.R_far (p := ⟨gb450, 2, none⟩) (Kd.R_far (p := ⟨gb450, 1, none⟩) (Kd.R_far (p := ⟨gb450, 0, none⟩) (Kd.R_types (Kd.R_types (Kd.R_types HO443.out BK450.out (by decide)) BK451.out (by decide)) BK452.out (by decide)) (fun _ hk => hk.1.1.2) (.int .i64 t432)) (fun _ hk => hk.1.1.2) (.int .i64 t433)) (fun _ hk => hk.1.1.2) (.int .i64 t434)) (fun _ hk => hk.1.1.2) (.slice Ao40 t435.length co40)) (fun _ hk => hk.1.2) (.int .i64 t438)) (fun _ hk => hk.1.2) (.int .i64 t439)) (fun _ hk => hk.1.2) (.int .i64 t440)) (fun _ hk => hk.1.2) (.slice Ao46 t441.length co46)) (fun _ hk => hk.2) (.int .i64 t444)) (fun _ hk => hk.2) (.int .i64 t445)) (fun _ hk => hk.2) (.int .i64 t446)) (fun _ hk => hk.2) (.slice Ao51 t447.length co51)) (fun _ h_ => h_.1)) (fun _ h_ => h_.1)) (fun _ h_ => h_.1))) hb); replace HO449 := zA (Kd.R_below (zR (Kd.R_mono (Kd.R_mono (Kd.R_mono (Kd.R_far (p := ⟨gb452, 3, none⟩) (Kd.R_far (p := ⟨gb452, 2, none⟩) (Kd.R_far (p := ⟨gb452, 1, none⟩) (Kd.R_far (p := ⟨gb452, 0, none⟩) (Kd.R_far (p := ⟨gb451, 3, none⟩) (Kd.R_far (p := ⟨gb451, 2, none⟩) (Kd.R_far (p := ⟨gb451, 1, none⟩) (Kd.R_far (p := ⟨gb451, 0, none⟩) (Kd.R_far (p := ⟨gb450, 3, none⟩) (Kd.R_far (p := ⟨gb450, 2, none⟩) (Kd.R_far (p := ⟨gb450, 1, none⟩) (Kd.R_far (p := ⟨gb450, 0, none⟩) (Kd.R_types (Kd.R_types (Kd.R_types HO449.out BK450.out (by decide)) BK451.out (by decide)) BK452.out (by decide)) (fun _ hk => hk.1.1.2) (.int .i64 t432)) (fun _ hk => hk.1.1.2) (.int .i64 t433)) (fun _ hk => hk.1.1.2) (.int .i64 t434)) (fun _ hk => hk.1.1.2) (.slice Ao40 t435.length co40)) (fun _ hk => hk.1.2) (.int .i64 t438)) (fun _ hk => hk.1.2) (.int .i64 t439)) (fun _ hk => hk.1.2) (.int .i64 t440)) (fun _ hk => hk.1.2) (.slice Ao46 t441.length co46)) (fun _ hk => hk.2) (.int .i64 t444)) (fun _ hk => hk.2) (.int .i64 t445)) (fun _ hk => hk.2) (.int .i64 t446)) (fun _ hk => hk.2) (.slice Ao51 t447.length co51)) (fun _ h_ => h_.1)) (fun _ h_ => h_.1)) (fun _ h_ => h_.1))) hb); replace BK413 := zb BK413 hb; replace BK423 := zb BK423 hb; replace BK431 := zb BK431 hb; replace BK450 := zA (blk_below (g := gb450) (o := .cells #[.int .i64 t432, .int .i64 t433, .int .i64 t434, .slice Ao40 t435.length co40] 26 (0, 0)) (by (with_reducible repeat (first | refine blk_drewN ?_ _ | refine blk_drew ?_ | refine blk_alloc ?_ _)); refine blk_far ?_ NB450_452.out _; (with_reducible repeat (first | refine blk_drewN ?_ _ | refine blk_drew ?_ | refine blk_alloc ?_ _)); refine blk_far ?_ NB450_452.out _; (with_reducible repeat (first | refine blk_drewN ?_ _ | refine blk_drew ?_ | refine blk_alloc ?_ _)); refine blk_far ?_ NB450_452.out _; (with_reducible repeat (first | refine blk_drewN ?_ _ | refine blk_drew ?_ | refine blk_alloc ?_ _)); refine blk_far ?_ NB450_452.out _; (with_reducible repeat (first | refine blk_drewN ?_ _ | refine blk_drew ?_ | refine blk_alloc ?_ _)); refine blk_far ?_ NB450_451.out _; (with_reducible repeat (first | refine blk_drewN ?_ _ | refine blk_drew ?_ | refine blk_alloc ?_ _)); refine blk_far ?_ NB450_451.out _; (with_reducible repeat (first | refine blk_drewN ?_ _ | refine blk_drew ?_ | refine blk_alloc ?_ _)); refine blk_far ?_ NB450_451.out _; (with_reducible repeat (first | refine blk_drewN ?_ _ | refine blk_drew ?_ | refine blk_alloc ?_ _)); refine blk_far ?_ NB450_451.out _; (with_reducible repeat (first | refine blk_drewN ?_ _ | refine blk_drew ?_ | refine blk_alloc ?_ _)); refine blk_put (cs := #[.int .i64 t432, .int .i64 t433, .int .i64 t434, .slice none 0 0]) ?_ 3 _ rfl; (with_reducible repeat (first | refine blk_drewN ?_ _ | refine blk_drew ?_ | refine blk_alloc ?_ _)); refine blk_put (cs := #[.int .i64 t432, .int .i64 t433, .int .i64 0, .slice none 0 0]) ?_ 2 _ rfl; (with_reducible repeat (first | refine blk_drewN ?_ _ | refine blk_drew ?_ | refine blk_alloc ?_ _)); refine blk_put (cs := #[.int .i64 t432, .int .i64 0, .int .i64 0, .slice none 0 0]) ?_ 1 _ rfl; (with_reducible repeat (first | refine blk_drewN ?_ _ | refine blk_drew ?_ | refine blk_alloc ?_ _)); refine blk_put (cs := #[.int .i64 0, .int .i64 0, .int .i64 0, .slice none 0 0]) ?_ 0 _ rfl; (with_reducible repeat (first | refine blk_drewN ?_ _ | refine blk_drew ?_ | refine blk_alloc ?_ _)); exact BK450.out) hb); replace BK451 := zA (blk_below (g := gb451) (o := .cells #[.int .i64 t438, .int .i64 t439, .int .i64 t440, .slice Ao46 t441.length co46] 26 (0, 0)) (by (with_reducible repeat (first | refine blk_drewN ?_ _ | refine blk_drew ?_ | refine blk_alloc ?_ _)); refine blk_far ?_ NB451_452.out _; (with_reducible repeat (first | refine blk_drewN ?_ _ | refine blk_drew ?_ | refine blk_alloc ?_ _)); refine blk_far ?_ NB451_452.out _; (with_reducible repeat (first | refine blk_drewN ?_ _ | refine blk_drew ?_ | refine blk_alloc ?_ _)); refine blk_far ?_ NB451_452.out _; (with_reducible repeat (first | refine blk_drewN ?_ _ | refine blk_drew ?_ | refine blk_alloc ?_ _)); refine blk_far ?_ NB451_452.out _; (with_reducible repeat (first | refine blk_drewN ?_ _ | refine blk_drew ?_ | refine blk_alloc ?_ _)); refine blk_put (cs := #[.int .i64 t438, .int .i64 t439, .int .i64 t440, .slice none 0 0]) ?_ 3 _ rfl; (with_reducible repeat (first | refine blk_drewN ?_ _ | refine blk_drew ?_ | refine blk_alloc ?_ _)); refine blk_put (cs := #[.int .i64 t438, .int .i64 t439, .int .i64 0, .slice none 0 0]) ?_ 2 _ rfl; (with_reducible repeat (first | refine blk_drewN ?_ _ | refine blk_drew ?_ | refine blk_alloc ?_ _)); refine blk_put (cs := #[.int .i64 t438, .int .i64 0, .int .i64 0, .slice none 0 0]) ?_ 1 _ rfl; (with_reducible repeat (first | refine blk_drewN ?_ _ | refine blk_drew ?_ | refine blk_alloc ?_ _)); refine blk_put (cs := #[.int .i64 0, .int .i64 0, .int .i64 0, .slice none 0 0]) ?_ 0 _ rfl; (with_reducible repeat (first | refine blk_drewN ?_ _ | refine blk_drew ?_ | refine blk_alloc ?_ _)); refine blk_far ?_ NB451_450.out _; (with_reducible repeat (first | refine blk_drewN ?_ _ | refine blk_drew ?_ | refine blk_alloc ?_ _)); refine blk_far ?_ NB451_450.out _; (with_reducible repeat (first | refine blk_drewN ?_ _ | refine blk_drew ?_ | refine blk_alloc ?_ _)); refine blk_far ?_ NB451_450.out _; (with_reducible repeat (first | refine blk_drewN ?_ _ | refine blk_drew ?_ | refine blk_alloc ?_ _)); refine blk_far ?_ NB451_450.out _; (with_reducible repeat (first | refine blk_drewN ?_ _ | refine blk_drew ?_ | refine blk_alloc ?_ _)); exact BK451.out) hb); replace BK452 := zA (blk_below (g := gb452) (o := .cells #[.int .i64 t444, .int .i64 t445, .int .i64 t446, .slice Ao51 t447.length co51] 26 (0, 0)) (by (with_reducible repeat (first | refine blk_drewN ?_ _ | refine blk_drew ?_ | refine blk_alloc ?_ _)); refine blk_put (cs := #[.int .i64 t444, .int .i64 t445, .int .i64 t446, .slice none 0 0]) ?_ 3 _ rfl; (with_reducible repeat (first | refine blk_drewN ?_ _ | refine blk_drew ?_ | refine blk_alloc ?_ _)); refine blk_put (cs := #[.int .i64 t444, .int .i64 t445, .int .i64 0, .slice none 0 0]) ?_ 2 _ rfl; (with_reducible repeat (first | refine blk_drewN ?_ _ | refine blk_drew ?_ | refine blk_alloc ?_ _)); refine blk_put (cs := #[.int .i64 t444, .int .i64 0, .int .i64 0, .slice none 0 0]) ?_ 1 _ rfl; (with_reducible repeat (first | refine blk_drewN ?_ _ | refine blk_drew ?_ | refine blk_alloc ?_ _)); refine blk_put (cs := #[.int .i64 0, .int .i64 0, .int .i64 0, .slice none 0 0]) ?_ 0 _ rfl; (with_reducible repeat (first | refine blk_drewN ?_ _ | refine blk_drew ?_ | refine blk_alloc ?_ _)); refine blk_far ?_ NB452_451.out _; (with_reducible repeat (first | refine blk_drewN ?_ _ | refine blk_drew ?_ | refine blk_alloc ?_ _)); refine blk_far ?_ NB452_451.out _; (with_reducible repeat (first | refine blk_drewN ?_ _ | refine blk_drew ?_ | refine blk_alloc ?_ _)); refine blk_far ?_ NB452_451.out _; (with_reducible repeat (first | refine blk_drewN ?_ _ | refine blk_drew ?_ | refine blk_alloc ?_ _)); refine blk_far ?_ NB452_451.out _; (with_reducible repeat (first | refine blk_drewN ?_ _ | refine blk_drew ?_ | refine blk_alloc ?_ _)); refine blk_far ?_ NB452_450.out _; (with_reducible repeat (first | refine blk_drewN ?_ _ | refine blk_drew ?_ | refine blk_alloc ?_ _)); refine blk_far ?_ NB452_450.out _; (with_reducible repeat (first | refine blk_drewN ?_ _ | refine blk_drew ?_ | refine blk_alloc ?_ _)); refine blk_far ?_ NB452_450.out _; (with_reducible repeat (first | refine blk_drewN ?_ _ | refine blk_drew ?_ | refine blk_alloc ?_ _)); refine blk_far ?_ NB452_450.out _; (with_reducible repeat (first | refine blk_drewN ?_ _ | refine blk_drew ?_ | refine blk_alloc ?_ _)); exact BK452.out) hb); replace HB := zh HB hb; (try clear hb)))
   (try simp only [Act.put, zT])
   go_cut [13] (fun v13 wc => ∃ (kq : Nat) (x13_11 : Int), v13 = .int .i64 x13_11 ∧ Aside0 (laws_FnVers.j1 kq t414 t415 t422 t430 x13_11 t407 t408 t409 t410 t416 t417 t418 t419 t432 t433 t434 t435 t438 t439 t440 t441 t444 t445 t446 t447 = some r) ∧ Aside0 (kq ≤ kj2) ∧ Aside0 (Kd.R Kd.string 9 wc w.heap.size (fun k_ => some k_ ≠ ((.slice Ao23 t419.length co23) : Value).ownBlock ∧ some k_ ≠ ((.slice Ao29 t427.length co29) : Value).ownBlock ∧ some k_ ≠ ((.slice Ao40 t435.length co40) : Value).ownBlock ∧ some k_ ≠ ((.slice Ao46 t441.length co46) : Value).ownBlock ∧ some k_ ≠ ((.slice Ao51 t447.length co51) : Value).ownBlock) (.slice Ao16 t410.length co16) t410) ∧ Aside0 (Kd.R Kd.string 9 wc w.heap.size (fun k_ => some k_ ≠ ((.slice Ao16 t410.length co16) : Value).ownBlock ∧ some k_ ≠ ((.slice Ao29 t427.length co29) : Value).ownBlock ∧ some k_ ≠ ((.slice Ao40 t435.length co40) : Value).ownBlock ∧ some k_ ≠ ((.slice Ao46 t441.length co46) : Value).ownBlock ∧ some k_ ≠ ((.slice Ao51 t447.length co51) : Value).ownBlock) (.slice Ao23 t419.length co23) t419) ∧ Aside0 (Kd.R Kd.string 9 wc w.heap.size (fun k_ => some k_ ≠ ((.slice Ao16 t410.length co16) : Value).ownBlock ∧ some k_ ≠ ((.slice Ao23 t419.length co23) : Value).ownBlock ∧ some k_ ≠ ((.slice Ao40 t435.length co40) : Value).ownBlock ∧ some k_ ≠ ((.slice Ao46 t441.length co46) : Value).ownBlock ∧ some k_ ≠ ((.slice Ao51 t447.length co51) : Value).ownBlock) (.slice Ao29 t427.length co29) t427) ∧ Aside0 (Kd.R Kd.string 9 wc w.heap.size (fun k_ => some k_ ≠ ((.slice Ao16 t410.length co16) : Value).ownBlock ∧ some k_ ≠ ((.slice Ao23 t419.length co23) : Value).ownBlock ∧ some k_ ≠ ((.slice Ao29 t427.length co29) : Value).ownBlock ∧ some k_ ≠ ((.slice Ao46 t441.length co46) : Value).ownBlock ∧ some k_ ≠ ((.slice Ao51 t447.length co51) : Value).ownBlock) (.slice Ao40 t435.length co40) t435) ∧ Aside0 (Kd.R Kd.string 9 wc w.heap.size (fun k_ => some k_ ≠ ((.slice Ao16 t410.length co16) : Value).ownBlock ∧ some k_ ≠ ((.slice Ao23 t419.length co23) : Value).ownBlock ∧ some k_ ≠ ((.slice Ao29 t427.length co29) : Value).ownBlock ∧ some k_ ≠ ((.slice Ao40 t435.length co40) : Value).ownBlock ∧ some k_ ≠ ((.slice Ao51 t447.length co51) : Value).ownBlock) (.slice Ao46 t441.length co46) t441) ∧ Aside0 (Kd.R Kd.string 9 wc w.heap.size (fun k_ => some k_ ≠ ((.slice Ao16 t410.length co16) : Value).ownBlock ∧ some k_ ≠ ((.slice Ao23 t419.length co23) : Value).ownBlock ∧ some k_ ≠ ((.slice Ao29 t427.length co29) : Value).ownBlock ∧ some k_ ≠ ((.slice Ao40 t435.length co40) : Value).ownBlock ∧ some k_ ≠ ((.slice Ao46 t441.length co46) : Value).ownBlock) (.slice Ao51 t447.length co51) t447) ∧ Aside0 (wc.heap[gb413]? = some (.cells #[.int .i64 t407, .int .i64 t408, .int .i64 t409, (.slice Ao16 t410.length co16)] 26 (0, 0))) ∧ Aside0 (wc.heap[gb423]? = some (.cells #[.int .i64 t416, .int .i64 t417, .int .i64 t418, (.slice Ao23 t419.length co23)] 26 (0, 0))) ∧ Aside0 (wc.heap[gb431]? = some (.cells #[.int .i64 t424, .int .i64 t425, .int .i64 t426, (.slice Ao29 t427.length co29)] 26 (0, 0))) ∧ Aside0 (wc.heap[gb450]? = some (.cells #[.int .i64 t432, .int .i64 t433, .int .i64 t434, (.slice Ao40 t435.length co40)] 26 (0, 0))) ∧ Aside0 (wc.heap[gb451]? = some (.cells #[.int .i64 t438, .int .i64 t439, .int .i64 t440, (.slice Ao46 t441.length co46)] 26 (0, 0))) ∧ Aside0 (wc.heap[gb452]? = some (.cells #[.int .i64 t444, .int .i64 t445, .int .i64 t446, (.slice Ao51 t447.length co51)] 26 (0, 0))) ∧ Aside0 (Below w.heap.size w wc))
   case first =>
    have H := HC12.out
    clear HC12
    by_cases c53 : t453 = true
    ·subst c53
     rw [if_pos rfl] at H
     have H' := Aside0.mk H
     clear H
     go_wp2
     go_meet
     case rel => exact ⟨_, (0 + 1), zS, (by first | exact H' | (subst_vars; exact H')), ⟨by have := HJ2.out; first | omega | exact Nat.le_refl _⟩, ⟨by (with_reducible repeat (first | apply Kd.R_alloc | apply Kd.R_drewN | apply Kd.R_drew)); exact Kd.R_mono HO412.out (fun _ hk => ⟨hk.1.1.1.1.2, ⟨hk.1.1.1.2, ⟨hk.1.1.2, ⟨hk.1.2, hk.2⟩⟩⟩⟩)⟩, ⟨by (with_reducible repeat (first | apply Kd.R_alloc | apply Kd.R_drewN | apply Kd.R_drew)); exact Kd.R_mono HO421.out (fun _ hk => ⟨hk.1.1.1.1.2, ⟨hk.1.1.1.2, ⟨hk.1.1.2, ⟨hk.1.2, hk.2⟩⟩⟩⟩)⟩, ⟨by (with_reducible repeat (first | apply Kd.R_alloc | apply Kd.R_drewN | apply Kd.R_drew)); exact Kd.R_mono HO429.out (fun _ hk => ⟨hk.1.1.1.1.2, ⟨hk.1.1.1.2, ⟨hk.1.1.2, ⟨hk.1.2, hk.2⟩⟩⟩⟩)⟩, ⟨by (with_reducible repeat (first | apply Kd.R_alloc | apply Kd.R_drewN | apply Kd.R_drew)); exact Kd.R_mono HO437.out (fun _ hk => ⟨hk.1.1.2, ⟨hk.1.2, ⟨hk.2, ⟨hk.1.1.1.1, hk.1.1.1.2⟩⟩⟩⟩)⟩, ⟨by (with_reducible repeat (first | apply Kd.R_alloc | apply Kd.R_drewN | apply Kd.R_drew)); exact Kd.R_mono HO443.out (fun _ hk => ⟨hk.1.1.2, ⟨hk.1.2, ⟨hk.2, ⟨hk.1.1.1.1, hk.1.1.1.2⟩⟩⟩⟩)⟩, ⟨by (with_reducible repeat (first | apply Kd.R_alloc | apply Kd.R_drewN | apply Kd.R_drew)); exact Kd.R_mono HO449.out (fun _ hk => ⟨hk.1.1.2, ⟨hk.1.2, ⟨hk.2, ⟨hk.1.1.1.1, hk.1.1.1.2⟩⟩⟩⟩)⟩, ⟨zK BK413.out⟩, ⟨zK BK423.out⟩, ⟨zK BK431.out⟩, ⟨zK BK450.out⟩, ⟨zK BK451.out⟩, ⟨zK BK452.out⟩, ⟨zW HB.out⟩⟩
    ·replace c53 := Bool.eq_false_iff.mpr c53
     subst c53
     rw [if_neg zFT] at H
     have H' := Aside0.mk H
     clear H
     go_wp2
     go_meet
     case rel => exact ⟨_, (0), zS, (by first | exact H' | (subst_vars; exact H')), ⟨by have := HJ2.out; first | omega | exact Nat.le_refl _⟩, ⟨by (with_reducible repeat (first | apply Kd.R_alloc | apply Kd.R_drewN | apply Kd.R_drew)); exact Kd.R_mono HO412.out (fun _ hk => ⟨hk.1.1.1.1.2, ⟨hk.1.1.1.2, ⟨hk.1.1.2, ⟨hk.1.2, hk.2⟩⟩⟩⟩)⟩, ⟨by (with_reducible repeat (first | apply Kd.R_alloc | apply Kd.R_drewN | apply Kd.R_drew)); exact Kd.R_mono HO421.out (fun _ hk => ⟨hk.1.1.1.1.2, ⟨hk.1.1.1.2, ⟨hk.1.1.2, ⟨hk.1.2, hk.2⟩⟩⟩⟩)⟩, ⟨by (with_reducible repeat (first | apply Kd.R_alloc | apply Kd.R_drewN | apply Kd.R_drew)); exact Kd.R_mono HO429.out (fun _ hk => ⟨hk.1.1.1.1.2, ⟨hk.1.1.1.2, ⟨hk.1.1.2, ⟨hk.1.2, hk.2⟩⟩⟩⟩)⟩, ⟨by (with_reducible repeat (first | apply Kd.R_alloc | apply Kd.R_drewN | apply Kd.R_drew)); exact Kd.R_mono HO437.out (fun _ hk => ⟨hk.1.1.2, ⟨hk.1.2, ⟨hk.2, ⟨hk.1.1.1.1, hk.1.1.1.2⟩⟩⟩⟩)⟩, ⟨by (with_reducible repeat (first | apply Kd.R_alloc | apply Kd.R_drewN | apply Kd.R_drew)); exact Kd.R_mono HO443.out (fun _ hk => ⟨hk.1.1.2, ⟨hk.1.2, ⟨hk.2, ⟨hk.1.1.1.1, hk.1.1.1.2⟩⟩⟩⟩)⟩, ⟨by (with_reducible repeat (first | apply Kd.R_alloc | apply Kd.R_drewN | apply Kd.R_drew)); exact Kd.R_mono HO449.out (fun _ hk => ⟨hk.1.1.2, ⟨hk.1.2, ⟨hk.2, ⟨hk.1.1.1.1, hk.1.1.1.2⟩⟩⟩⟩)⟩, ⟨zK BK413.out⟩, ⟨zK BK423.out⟩, ⟨zK BK431.out⟩, ⟨zK BK450.out⟩, ⟨zK BK451.out⟩, ⟨zK BK452.out⟩, ⟨zW HB.out⟩⟩
   case rest =>
    clear HC12
    try clear c1
    try clear c2
    try clear p2
    try clear c3
    try clear c4
    try clear c5
    try clear c6
    try clear c7
    try clear c8
    try clear c9
    try clear c10
    try clear c11
    try clear c12
    try clear c21
    try clear c26
    try clear c27
    try clear c34
    try clear c35
    try clear c36
    try clear c37
    try clear c38
    try clear c41
    try clear c42
    try clear c43
    try clear c44
    try clear c47
    try clear c48
    try clear c49
    try clear c53
    try clear hcz15_0
    try clear hcz15_1
    try clear hcz15_2
    try clear hcz15_3
    try clear hcz22_0
    try clear hcz22_1
    try clear hcz22_2
    try clear hcz22_3
    try clear hcz28_0
    try clear hcz28_1
    try clear hcz28_2
    try clear hcz28_3
    try clear hcz39_0
    try clear hcz39_1
    try clear hcz39_2
    try clear hcz39_3
    try clear hcz45_0
    try clear hcz45_1
    try clear hcz45_2
    try clear hcz45_3
    try clear hcz50_0
    try clear hcz50_1
    try clear hcz50_2
    try clear hcz50_3
    try clear hfz15_0
    try clear hfz15_1
    try clear hfz15_2
    try clear hfz15_3
    try clear hfz22_0
    try clear hfz22_1
    try clear hfz22_2
    try clear hfz22_3
    try clear hfz28_0
    try clear hfz28_1
    try clear hfz28_2
    try clear hfz28_3
    try clear hfz39_0
    try clear hfz39_1
    try clear hfz39_2
    try clear hfz39_3
    try clear hfz45_0
    try clear hfz45_1
    try clear hfz45_2
    try clear hfz45_3
    try clear hfz50_0
    try clear hfz50_1
    try clear hfz50_2
    try clear hfz50_3
    try clear p2
    obtain ⟨kq, x13_11, rfl, HA, HJ11, HO_414003, HO_424003, HO_432003, HO_451003, HO_452003, HO_453003, BK413, BK423, BK431, BK450, BK451, BK452, HB⟩ := hcut
    cases kq with
    | zero => exact absurd HA.out (by simp [laws_FnVers.j1])
    | succ kj11 =>
     have H := HA.out
     clear HA
     simp only [laws_FnVers.j1] at H
     replace H := Option.bind_eq_some_iff.mp H
     obtain ⟨t454, A540, H⟩ := H
     try dsimp only at H
     have A54 := Aside0.mk A540
     clear A540
     have HC55 := Aside0.mk H
     clear H
     have hnb56 := NB451_413.out
     have hnc56 := NB413_451.out
     have hnb57 := NB451_423.out
     have hnc57 := NB423_451.out
     have hnb58 := NB451_431.out
     have hnc58 := NB431_451.out
     have hnb59 := NB451_450.out
     have hnc59 := NB450_451.out
     have hnb60 := NB451_452.out
     have hnc60 := NB452_451.out
     obtain ⟨hcz61_0, hcz61_1, hcz61_2, hcz61_3, hfz61_0, hfz61_1, hfz61_2, hfz61_3⟩ := ze4 BK451.out
     have hnb62 := NB450_413.out
     have hnc62 := NB413_450.out
     have hnb63 := NB450_423.out
     have hnc63 := NB423_450.out
     have hnb64 := NB450_431.out
     have hnc64 := NB431_450.out
     have hnb65 := NB450_452.out
     have hnc65 := NB452_450.out
     obtain ⟨hcz66_0, hcz66_1, hcz66_2, hcz66_3, hfz66_0, hfz66_1, hfz66_2, hfz66_3⟩ := ze4 BK450.out
     go_upto_if 47 with (first | ((with_reducible refine zq 12 ?_); refine zg (some 47) Tryd.func12 #[.agg #[.int .i64 t438, .int .i64 t439, .int .i64 t440, .slice Ao46 t441.length co46], .agg #[.int .i64 t432, .int .i64 t433, .int .i64 t434, .slice Ao40 t435.length co40]] ?_; (with_reducible refine (impl_LessVer.calls kj11 t438 t439 t440 _ _ t441 t432 t433 t434 _ _ t435 t454 _ ?side1 ?side2 ?side3 ?side4 A54.out).mono ?_); (case side1 => repeat (first | exact (Kd.R_reads' HO_452003.out).2.2 | (with_reducible refine Kd.C_alloc ?_ _) | (with_reducible refine Kd.C_drewN ?_ _) | (with_reducible refine Kd.C_drew ?_))); (case side2 => exact (Kd.R_reads' HO_452003.out).2.1); (case side3 => repeat (first | exact (Kd.R_reads' HO_451003.out).2.2 | (with_reducible refine Kd.C_alloc ?_ _) | (with_reducible refine Kd.C_drewN ?_ _) | (with_reducible refine Kd.C_drew ?_))); (case side4 => exact (Kd.R_reads' HO_451003.out).2.1); rintro e w67 ⟨rfl, hb⟩; refine ⟨_, rfl, ?_⟩; replace HO_414003 := zr HO_414003 hb; replace HO_424003 := zr HO_424003 hb; replace HO_432003 := zr HO_432003 hb; replace HO_451003 := zr HO_451003 hb; replace HO_452003 := zr HO_452003 hb; replace HO_453003 := zr HO_453003 hb; replace BK413 := zb BK413 hb; replace BK423 := zb BK423 hb; replace BK431 := zb BK431 hb; replace BK450 := zb BK450 hb; replace BK451 := zb BK451 hb; replace BK452 := zb BK452 hb; replace HB := zh HB hb; (try clear hb)))
     (try simp only [Act.put, zT])
     go_cut [13] (fun v13 wc => ∃ (kq : Nat) (x13_54 : Int), v13 = .int .i64 x13_54 ∧ Aside0 (laws_FnVers.j2 kq t414 t415 t422 t430 x13_54 t407 t408 t409 t410 t416 t417 t418 t419 t432 t433 t434 t435 t438 t439 t440 t441 t444 t445 t446 t447 = some r) ∧ Aside0 (kq ≤ kj11) ∧ Aside0 (Kd.R Kd.string 9 wc w.heap.size (fun k_ => some k_ ≠ ((.slice Ao23 t419.length co23) : Value).ownBlock ∧ some k_ ≠ ((.slice Ao29 t427.length co29) : Value).ownBlock ∧ some k_ ≠ ((.slice Ao40 t435.length co40) : Value).ownBlock ∧ some k_ ≠ ((.slice Ao46 t441.length co46) : Value).ownBlock ∧ some k_ ≠ ((.slice Ao51 t447.length co51) : Value).ownBlock) (.slice Ao16 t410.length co16) t410) ∧ Aside0 (Kd.R Kd.string 9 wc w.heap.size (fun k_ => some k_ ≠ ((.slice Ao16 t410.length co16) : Value).ownBlock ∧ some k_ ≠ ((.slice Ao29 t427.length co29) : Value).ownBlock ∧ some k_ ≠ ((.slice Ao40 t435.length co40) : Value).ownBlock ∧ some k_ ≠ ((.slice Ao46 t441.length co46) : Value).ownBlock ∧ some k_ ≠ ((.slice Ao51 t447.length co51) : Value).ownBlock) (.slice Ao23 t419.length co23) t419) ∧ Aside0 (Kd.R Kd.string 9 wc w.heap.size (fun k_ => some k_ ≠ ((.slice Ao16 t410.length co16) : Value).ownBlock ∧ some k_ ≠ ((.slice Ao23 t419.length co23) : Value).ownBlock ∧ some k_ ≠ ((.slice Ao40 t435.length co40) : Value).ownBlock ∧ some k_ ≠ ((.slice Ao46 t441.length co46) : Value).ownBlock ∧ some k_ ≠ ((.slice Ao51 t447.length co51) : Value).ownBlock) (.slice Ao29 t427.length co29) t427) ∧ Aside0 (Kd.R Kd.string 9 wc w.heap.size (fun k_ => some k_ ≠ ((.slice Ao16 t410.length co16) : Value).ownBlock ∧ some k_ ≠ ((.slice Ao23 t419.length co23) : Value).ownBlock ∧ some k_ ≠ ((.slice Ao29 t427.length co29) : Value).ownBlock ∧ some k_ ≠ ((.slice Ao46 t441.length co46) : Value).ownBlock ∧ some k_ ≠ ((.slice Ao51 t447.length co51) : Value).ownBlock) (.slice Ao40 t435.length co40) t435) ∧ Aside0 (Kd.R Kd.string 9 wc w.heap.size (fun k_ => some k_ ≠ ((.slice Ao16 t410.length co16) : Value).ownBlock ∧ some k_ ≠ ((.slice Ao23 t419.length co23) : Value).ownBlock ∧ some k_ ≠ ((.slice Ao29 t427.length co29) : Value).ownBlock ∧ some k_ ≠ ((.slice Ao40 t435.length co40) : Value).ownBlock ∧ some k_ ≠ ((.slice Ao51 t447.length co51) : Value).ownBlock) (.slice Ao46 t441.length co46) t441) ∧ Aside0 (Kd.R Kd.string 9 wc w.heap.size (fun k_ => some k_ ≠ ((.slice Ao16 t410.length co16) : Value).ownBlock ∧ some k_ ≠ ((.slice Ao23 t419.length co23) : Value).ownBlock ∧ some k_ ≠ ((.slice Ao29 t427.length co29) : Value).ownBlock ∧ some k_ ≠ ((.slice Ao40 t435.length co40) : Value).ownBlock ∧ some k_ ≠ ((.slice Ao46 t441.length co46) : Value).ownBlock) (.slice Ao51 t447.length co51) t447) ∧ Aside0 (wc.heap[gb413]? = some (.cells #[.int .i64 t407, .int .i64 t408, .int .i64 t409, (.slice Ao16 t410.length co16)] 26 (0, 0))) ∧ Aside0 (wc.heap[gb423]? = some (.cells #[.int .i64 t416, .int .i64 t417, .int .i64 t418, (.slice Ao23 t419.length co23)] 26 (0, 0))) ∧ Aside0 (wc.heap[gb431]? = some (.cells #[.int .i64 t424, .int .i64 t425, .int .i64 t426, (.slice Ao29 t427.length co29)] 26 (0, 0))) ∧ Aside0 (wc.heap[gb450]? = some (.cells #[.int .i64 t432, .int .i64 t433, .int .i64 t434, (.slice Ao40 t435.length co40)] 26 (0, 0))) ∧ Aside0 (wc.heap[gb451]? = some (.cells #[.int .i64 t438, .int .i64 t439, .int .i64 t440, (.slice Ao46 t441.length co46)] 26 (0, 0))) ∧ Aside0 (wc.heap[gb452]? = some (.cells #[.int .i64 t444, .int .i64 t445, .int .i64 t446, (.slice Ao51 t447.length co51)] 26 (0, 0))) ∧ Aside0 (Below w.heap.size w wc))
     case first =>
      have H := HC55.out
      clear HC55
      by_cases c68 : t454 = true
      ·subst c68
       rw [if_pos rfl] at H
       have H' := Aside0.mk H
       clear H
       go_wp2
       go_meet
       case rel => exact ⟨_, (wrap64 (x13_11 + 1)), zS, (by first | exact H' | (subst_vars; exact H')), ⟨by have := HJ2.out; have := HJ11.out; first | omega | exact Nat.le_refl _⟩, ⟨zR HO_414003.out⟩, ⟨zR HO_424003.out⟩, ⟨zR HO_432003.out⟩, ⟨zR HO_451003.out⟩, ⟨zR HO_452003.out⟩, ⟨zR HO_453003.out⟩, ⟨zK BK413.out⟩, ⟨zK BK423.out⟩, ⟨zK BK431.out⟩, ⟨zK BK450.out⟩, ⟨zK BK451.out⟩, ⟨zK BK452.out⟩, ⟨zW HB.out⟩⟩
      ·replace c68 := Bool.eq_false_iff.mpr c68
       subst c68
       rw [if_neg zFT] at H
       have H' := Aside0.mk H
       clear H
       go_wp2
       go_meet
       case rel => exact ⟨_, (x13_11), zS, (by first | exact H' | (subst_vars; exact H')), ⟨by have := HJ2.out; have := HJ11.out; first | omega | exact Nat.le_refl _⟩, ⟨zR HO_414003.out⟩, ⟨zR HO_424003.out⟩, ⟨zR HO_432003.out⟩, ⟨zR HO_451003.out⟩, ⟨zR HO_452003.out⟩, ⟨zR HO_453003.out⟩, ⟨zK BK413.out⟩, ⟨zK BK423.out⟩, ⟨zK BK431.out⟩, ⟨zK BK450.out⟩, ⟨zK BK451.out⟩, ⟨zK BK452.out⟩, ⟨zW HB.out⟩⟩
     case rest =>
      clear HC55
      try clear c1
      try clear c2
      try clear p2
      try clear c3
      try clear c4
      try clear c5
      try clear c6
      try clear p6
      try clear c7
      try clear c8
      try clear c9
      try clear c10
      try clear c11
      try clear c12
      try clear c21
      try clear c26
      try clear c27
      try clear c34
      try clear c35
      try clear c36
      try clear c37
      try clear c38
      try clear c41
      try clear c42
      try clear c43
      try clear c44
      try clear c47
      try clear c48
      try clear c49
      try clear c53
      try clear c56
      try clear c57
      try clear c58
      try clear c59
      try clear c60
      try clear c62
      try clear c63
      try clear c64
      try clear p64
      try clear c65
      try clear c68
      try clear hcz15_0
      try clear hcz15_1
      try clear hcz15_2
      try clear hcz15_3
      try clear hcz22_0
      try clear hcz22_1
      try clear hcz22_2
      try clear hcz22_3
      try clear hcz28_0
      try clear hcz28_1
      try clear hcz28_2
      try clear hcz28_3
      try clear hcz39_0
      try clear hcz39_1
      try clear hcz39_2
      try clear hcz39_3
      try clear hcz45_0
      try clear hcz45_1
      try clear hcz45_2
      try clear hcz45_3
      try clear hcz50_0
      try clear hcz50_1
      try clear hcz50_2
      try clear hcz50_3
      try clear hcz61_0
      try clear hcz61_1
      try clear hcz61_2
      try clear hcz61_3
      try clear hcz66_0
      try clear hcz66_1
      try clear hcz66_2
      try clear hcz66_3
      try clear hfz15_0
      try clear hfz15_1
      try clear hfz15_2
      try clear hfz15_3
      try clear hfz22_0
      try clear hfz22_1
      try clear hfz22_2
      try clear hfz22_3
      try clear hfz28_0
      try clear hfz28_1
      try clear hfz28_2
      try clear hfz28_3
      try clear hfz39_0
      try clear hfz39_1
      try clear hfz39_2
      try clear hfz39_3
      try clear hfz45_0
      try clear hfz45_1
      try clear hfz45_2
      try clear hfz45_3
      try clear hfz50_0
      try clear hfz50_1
      try clear hfz50_2
      try clear hfz50_3
      try clear hfz61_0
      try clear hfz61_1
      try clear hfz61_2
      try clear hfz61_3
      try clear hfz66_0
      try clear hfz66_1
      try clear hfz66_2
      try clear hfz66_3
      try clear p2
      obtain ⟨kq, x13_54, rfl, HA, HJ54, HO_414003, HO_424003, HO_432003, HO_451003, HO_452003, HO_453003, BK413, BK423, BK431, BK450, BK451, BK452, HB⟩ := hcut
      cases kq with
      | zero => exact absurd HA.out (by simp [laws_FnVers.j2])
      | succ kj54 =>
       have H := HA.out
       clear HA
       simp only [laws_FnVers.j2] at H
       replace H := Option.bind_eq_some_iff.mp H
       obtain ⟨t455, A690, H⟩ := H
       try dsimp only at H
       have A69 := Aside0.mk A690
       clear A690
       have HC70 := Aside0.mk H
       clear H
       have hnb71 := NB450_413.out
       have hnc71 := NB413_450.out
       have hnb72 := NB450_423.out
       have hnc72 := NB423_450.out
       have hnb73 := NB450_431.out
       have hnc73 := NB431_450.out
       have hnb74 := NB450_451.out
       have hnc74 := NB451_450.out
       have hnb75 := NB450_452.out
       have hnc75 := NB452_450.out
       obtain ⟨hcz76_0, hcz76_1, hcz76_2, hcz76_3, hfz76_0, hfz76_1, hfz76_2, hfz76_3⟩ := ze4 BK450.out
       have hnb77 := NB451_413.out
       have hnc77 := NB413_451.out
       have hnb78 := NB451_423.out
       have hnc78 := NB423_451.out
       have hnb79 := NB451_431.out
       have hnc79 := NB431_451.out
       have hnb80 := NB451_452.out
       have hnc80 := NB452_451.out
       obtain ⟨hcz81_0, hcz81_1, hcz81_2, hcz81_3, hfz81_0, hfz81_1, hfz81_2, hfz81_3⟩ := ze4 BK451.out
       go_upto_if 52 with (first | ((with_reducible refine zq 13 ?_); refine zg (some 52) Tryd.func13 #[.agg #[.int .i64 t432, .int .i64 t433, .int .i64 t434, .slice Ao40 t435.length co40], .agg #[.int .i64 t438, .int .i64 t439, .int .i64 t440, .slice Ao46 t441.length co46]] ?_; (with_reducible refine (impl_SameVer.calls kj54 t432 t433 t434 _ _ t435 t438 t439 t440 _ _ t441 t455 _ ?side1 ?side2 ?side3 ?side4 A69.out).mono ?_); (case side1 => repeat (first | exact (Kd.R_reads' HO_451003.out).2.2 | (with_reducible refine Kd.C_alloc ?_ _) | (with_reducible refine Kd.C_drewN ?_ _) | (with_reducible refine Kd.C_drew ?_))); (case side2 => exact (Kd.R_reads' HO_451003.out).2.1); (case side3 => repeat (first | exact (Kd.R_reads' HO_452003.out).2.2 | (with_reducible refine Kd.C_alloc ?_ _) | (with_reducible refine Kd.C_drewN ?_ _) | (with_reducible refine Kd.C_drew ?_))); (case side4 => exact (Kd.R_reads' HO_452003.out).2.1); rintro e w82 ⟨rfl, hb⟩; refine ⟨_, rfl, ?_⟩; replace HO_414003 := zr HO_414003 hb; replace HO_424003 := zr HO_424003 hb; replace HO_432003 := zr HO_432003 hb; replace HO_451003 := zr HO_451003 hb; replace HO_452003 := zr HO_452003 hb; replace HO_453003 := zr HO_453003 hb; replace BK413 := zb BK413 hb; replace BK423 := zb BK423 hb; replace BK431 := zb BK431 hb; replace BK450 := zb BK450 hb; replace BK451 := zb BK451 hb; replace BK452 := zb BK452 hb; replace HB := zh HB hb; (try clear hb)))
       (try simp only [Act.put, zT])
       go_cut [13] (fun v13 wc => ∃ (kq : Nat) (x13_69 : Int), v13 = .int .i64 x13_69 ∧ Aside0 (laws_FnVers.j3 kq t414 t415 t422 t430 x13_69 t407 t408 t409 t410 t416 t417 t418 t419 t432 t433 t434 t435 t438 t439 t440 t441 t444 t445 t446 t447 = some r) ∧ Aside0 (kq ≤ kj54) ∧ Aside0 (Kd.R Kd.string 9 wc w.heap.size (fun k_ => some k_ ≠ ((.slice Ao23 t419.length co23) : Value).ownBlock ∧ some k_ ≠ ((.slice Ao29 t427.length co29) : Value).ownBlock ∧ some k_ ≠ ((.slice Ao40 t435.length co40) : Value).ownBlock ∧ some k_ ≠ ((.slice Ao46 t441.length co46) : Value).ownBlock ∧ some k_ ≠ ((.slice Ao51 t447.length co51) : Value).ownBlock) (.slice Ao16 t410.length co16) t410) ∧ Aside0 (Kd.R Kd.string 9 wc w.heap.size (fun k_ => some k_ ≠ ((.slice Ao16 t410.length co16) : Value).ownBlock ∧ some k_ ≠ ((.slice Ao29 t427.length co29) : Value).ownBlock ∧ some k_ ≠ ((.slice Ao40 t435.length co40) : Value).ownBlock ∧ some k_ ≠ ((.slice Ao46 t441.length co46) : Value).ownBlock ∧ some k_ ≠ ((.slice Ao51 t447.length co51) : Value).ownBlock) (.slice Ao23 t419.length co23) t419) ∧ Aside0 (Kd.R Kd.string 9 wc w.heap.size (fun k_ => some k_ ≠ ((.slice Ao16 t410.length co16) : Value).ownBlock ∧ some k_ ≠ ((.slice Ao23 t419.length co23) : Value).ownBlock ∧ some k_ ≠ ((.slice Ao40 t435.length co40) : Value).ownBlock ∧ some k_ ≠ ((.slice Ao46 t441.length co46) : Value).ownBlock ∧ some k_ ≠ ((.slice Ao51 t447.length co51) : Value).ownBlock) (.slice Ao29 t427.length co29) t427) ∧ Aside0 (Kd.R Kd.string 9 wc w.heap.size (fun k_ => some k_ ≠ ((.slice Ao16 t410.length co16) : Value).ownBlock ∧ some k_ ≠ ((.slice Ao23 t419.length co23) : Value).ownBlock ∧ some k_ ≠ ((.slice Ao29 t427.length co29) : Value).ownBlock ∧ some k_ ≠ ((.slice Ao46 t441.length co46) : Value).ownBlock ∧ some k_ ≠ ((.slice Ao51 t447.length co51) : Value).ownBlock) (.slice Ao40 t435.length co40) t435) ∧ Aside0 (Kd.R Kd.string 9 wc w.heap.size (fun k_ => some k_ ≠ ((.slice Ao16 t410.length co16) : Value).ownBlock ∧ some k_ ≠ ((.slice Ao23 t419.length co23) : Value).ownBlock ∧ some k_ ≠ ((.slice Ao29 t427.length co29) : Value).ownBlock ∧ some k_ ≠ ((.slice Ao40 t435.length co40) : Value).ownBlock ∧ some k_ ≠ ((.slice Ao51 t447.length co51) : Value).ownBlock) (.slice Ao46 t441.length co46) t441) ∧ Aside0 (Kd.R Kd.string 9 wc w.heap.size (fun k_ => some k_ ≠ ((.slice Ao16 t410.length co16) : Value).ownBlock ∧ some k_ ≠ ((.slice Ao23 t419.length co23) : Value).ownBlock ∧ some k_ ≠ ((.slice Ao29 t427.length co29) : Value).ownBlock ∧ some k_ ≠ ((.slice Ao40 t435.length co40) : Value).ownBlock ∧ some k_ ≠ ((.slice Ao46 t441.length co46) : Value).ownBlock) (.slice Ao51 t447.length co51) t447) ∧ Aside0 (wc.heap[gb413]? = some (.cells #[.int .i64 t407, .int .i64 t408, .int .i64 t409, (.slice Ao16 t410.length co16)] 26 (0, 0))) ∧ Aside0 (wc.heap[gb423]? = some (.cells #[.int .i64 t416, .int .i64 t417, .int .i64 t418, (.slice Ao23 t419.length co23)] 26 (0, 0))) ∧ Aside0 (wc.heap[gb431]? = some (.cells #[.int .i64 t424, .int .i64 t425, .int .i64 t426, (.slice Ao29 t427.length co29)] 26 (0, 0))) ∧ Aside0 (wc.heap[gb450]? = some (.cells #[.int .i64 t432, .int .i64 t433, .int .i64 t434, (.slice Ao40 t435.length co40)] 26 (0, 0))) ∧ Aside0 (wc.heap[gb451]? = some (.cells #[.int .i64 t438, .int .i64 t439, .int .i64 t440, (.slice Ao46 t441.length co46)] 26 (0, 0))) ∧ Aside0 (wc.heap[gb452]? = some (.cells #[.int .i64 t444, .int .i64 t445, .int .i64 t446, (.slice Ao51 t447.length co51)] 26 (0, 0))) ∧ Aside0 (Below w.heap.size w wc))
       case first =>
        have H := HC70.out
        clear HC70
        by_cases c83 : t455 = true
        ·subst c83
         rw [if_pos rfl] at H
         have H' := Aside0.mk H
         clear H
         go_wp2
         go_meet
         case rel => exact ⟨_, (wrap64 (x13_54 + 1)), zS, (by first | exact H' | (subst_vars; exact H')), ⟨by have := HJ2.out; have := HJ11.out; have := HJ54.out; first | omega | exact Nat.le_refl _⟩, ⟨zR HO_414003.out⟩, ⟨zR HO_424003.out⟩, ⟨zR HO_432003.out⟩, ⟨zR HO_451003.out⟩, ⟨zR HO_452003.out⟩, ⟨zR HO_453003.out⟩, ⟨zK BK413.out⟩, ⟨zK BK423.out⟩, ⟨zK BK431.out⟩, ⟨zK BK450.out⟩, ⟨zK BK451.out⟩, ⟨zK BK452.out⟩, ⟨zW HB.out⟩⟩
        ·replace c83 := Bool.eq_false_iff.mpr c83
         subst c83
         rw [if_neg zFT] at H
         have H' := Aside0.mk H
         clear H
         go_wp2
         go_meet
         case rel => exact ⟨_, (x13_54), zS, (by first | exact H' | (subst_vars; exact H')), ⟨by have := HJ2.out; have := HJ11.out; have := HJ54.out; first | omega | exact Nat.le_refl _⟩, ⟨zR HO_414003.out⟩, ⟨zR HO_424003.out⟩, ⟨zR HO_432003.out⟩, ⟨zR HO_451003.out⟩, ⟨zR HO_452003.out⟩, ⟨zR HO_453003.out⟩, ⟨zK BK413.out⟩, ⟨zK BK423.out⟩, ⟨zK BK431.out⟩, ⟨zK BK450.out⟩, ⟨zK BK451.out⟩, ⟨zK BK452.out⟩, ⟨zW HB.out⟩⟩
       case rest =>
        clear HC70
        try clear c1
        try clear c2
        try clear p2
        try clear c3
        try clear c4
        try clear c5
        try clear c6
        try clear p6
        try clear c7
        try clear c8
        try clear c9
        try clear c10
        try clear c11
        try clear c12
        try clear c13
        try clear c21
        try clear c26
        try clear c27
        try clear c34
        try clear c35
        try clear c36
        try clear c37
        try clear c38
        try clear c41
        try clear c42
        try clear c43
        try clear c44
        try clear c47
        try clear c48
        try clear c49
        try clear c53
        try clear c56
        try clear c57
        try clear c58
        try clear c59
        try clear c60
        try clear c62
        try clear c63
        try clear c64
        try clear p64
        try clear c65
        try clear c68
        try clear c71
        try clear c72
        try clear c73
        try clear c74
        try clear c75
        try clear c77
        try clear c78
        try clear c79
        try clear c80
        try clear c83
        try clear hcz15_0
        try clear hcz15_1
        try clear hcz15_2
        try clear hcz15_3
        try clear hcz22_0
        try clear hcz22_1
        try clear hcz22_2
        try clear hcz22_3
        try clear hcz28_0
        try clear hcz28_1
        try clear hcz28_2
        try clear hcz28_3
        try clear hcz39_0
        try clear hcz39_1
        try clear hcz39_2
        try clear hcz39_3
        try clear hcz45_0
        try clear hcz45_1
        try clear hcz45_2
        try clear hcz45_3
        try clear hcz50_0
        try clear hcz50_1
        try clear hcz50_2
        try clear hcz50_3
        try clear hcz61_0
        try clear hcz61_1
        try clear hcz61_2
        try clear hcz61_3
        try clear hcz66_0
        try clear hcz66_1
        try clear hcz66_2
        try clear hcz66_3
        try clear hcz76_0
        try clear hcz76_1
        try clear hcz76_2
        try clear hcz76_3
        try clear hcz81_0
        try clear hcz81_1
        try clear hcz81_2
        try clear hcz81_3
        try clear hfz15_0
        try clear hfz15_1
        try clear hfz15_2
        try clear hfz15_3
        try clear hfz22_0
        try clear hfz22_1
        try clear hfz22_2
        try clear hfz22_3
        try clear hfz28_0
        try clear hfz28_1
        try clear hfz28_2
        try clear hfz28_3
        try clear hfz39_0
        try clear hfz39_1
        try clear hfz39_2
        try clear hfz39_3
        try clear hfz45_0
        try clear hfz45_1
        try clear hfz45_2
        try clear hfz45_3
        try clear hfz50_0
        try clear hfz50_1
        try clear hfz50_2
        try clear hfz50_3
        try clear hfz61_0
        try clear hfz61_1
        try clear hfz61_2
        try clear hfz61_3
        try clear hfz66_0
        try clear hfz66_1
        try clear hfz66_2
        try clear hfz66_3
        try clear hfz76_0
        try clear hfz76_1
        try clear hfz76_2
        try clear hfz76_3
        try clear hfz81_0
        try clear hfz81_1
        try clear hfz81_2
        try clear hfz81_3
        try clear p2
        try clear p6
        try clear p64
        obtain ⟨kq, x13_69, rfl, HA, HJ69, HO_414003, HO_424003, HO_432003, HO_451003, HO_452003, HO_453003, BK413, BK423, BK431, BK450, BK451, BK452, HB⟩ := hcut
        cases kq with
        | zero => exact absurd HA.out (by simp [laws_FnVers.j3])
        | succ kj69 =>
         have H := HA.out
         clear HA
         simp only [laws_FnVers.j3] at H
         have HC84 := Aside0.mk H
         clear H
         go_upto_region 16 with (fail)
         go_cut [77] (fun v77 wc => ∃ (kq : Nat) (x77_83 : Bool), v77 = .bool x77_83 ∧ Aside0 (laws_FnVers.j4 kq t414 x77_83 t407 t408 t409 t410 t432 t433 t434 t435 t438 t439 t440 t441 t444 t445 t446 t447 = some r) ∧ Aside0 (kq ≤ kj69) ∧ Aside0 (Kd.R Kd.string 9 wc w.heap.size (fun k_ => some k_ ≠ ((.slice Ao23 t419.length co23) : Value).ownBlock ∧ some k_ ≠ ((.slice Ao29 t427.length co29) : Value).ownBlock ∧ some k_ ≠ ((.slice Ao40 t435.length co40) : Value).ownBlock ∧ some k_ ≠ ((.slice Ao46 t441.length co46) : Value).ownBlock ∧ some k_ ≠ ((.slice Ao51 t447.length co51) : Value).ownBlock) (.slice Ao16 t410.length co16) t410) ∧ Aside0 (Kd.R Kd.string 9 wc w.heap.size (fun k_ => some k_ ≠ ((.slice Ao16 t410.length co16) : Value).ownBlock ∧ some k_ ≠ ((.slice Ao29 t427.length co29) : Value).ownBlock ∧ some k_ ≠ ((.slice Ao40 t435.length co40) : Value).ownBlock ∧ some k_ ≠ ((.slice Ao46 t441.length co46) : Value).ownBlock ∧ some k_ ≠ ((.slice Ao51 t447.length co51) : Value).ownBlock) (.slice Ao23 t419.length co23) t419) ∧ Aside0 (Kd.R Kd.string 9 wc w.heap.size (fun k_ => some k_ ≠ ((.slice Ao16 t410.length co16) : Value).ownBlock ∧ some k_ ≠ ((.slice Ao23 t419.length co23) : Value).ownBlock ∧ some k_ ≠ ((.slice Ao40 t435.length co40) : Value).ownBlock ∧ some k_ ≠ ((.slice Ao46 t441.length co46) : Value).ownBlock ∧ some k_ ≠ ((.slice Ao51 t447.length co51) : Value).ownBlock) (.slice Ao29 t427.length co29) t427) ∧ Aside0 (Kd.R Kd.string 9 wc w.heap.size (fun k_ => some k_ ≠ ((.slice Ao16 t410.length co16) : Value).ownBlock ∧ some k_ ≠ ((.slice Ao23 t419.length co23) : Value).ownBlock ∧ some k_ ≠ ((.slice Ao29 t427.length co29) : Value).ownBlock ∧ some k_ ≠ ((.slice Ao46 t441.length co46) : Value).ownBlock ∧ some k_ ≠ ((.slice Ao51 t447.length co51) : Value).ownBlock) (.slice Ao40 t435.length co40) t435) ∧ Aside0 (Kd.R Kd.string 9 wc w.heap.size (fun k_ => some k_ ≠ ((.slice Ao16 t410.length co16) : Value).ownBlock ∧ some k_ ≠ ((.slice Ao23 t419.length co23) : Value).ownBlock ∧ some k_ ≠ ((.slice Ao29 t427.length co29) : Value).ownBlock ∧ some k_ ≠ ((.slice Ao40 t435.length co40) : Value).ownBlock ∧ some k_ ≠ ((.slice Ao51 t447.length co51) : Value).ownBlock) (.slice Ao46 t441.length co46) t441) ∧ Aside0 (Kd.R Kd.string 9 wc w.heap.size (fun k_ => some k_ ≠ ((.slice Ao16 t410.length co16) : Value).ownBlock ∧ some k_ ≠ ((.slice Ao23 t419.length co23) : Value).ownBlock ∧ some k_ ≠ ((.slice Ao29 t427.length co29) : Value).ownBlock ∧ some k_ ≠ ((.slice Ao40 t435.length co40) : Value).ownBlock ∧ some k_ ≠ ((.slice Ao46 t441.length co46) : Value).ownBlock) (.slice Ao51 t447.length co51) t447) ∧ Aside0 (wc.heap[gb413]? = some (.cells #[.int .i64 t407, .int .i64 t408, .int .i64 t409, (.slice Ao16 t410.length co16)] 26 (0, 0))) ∧ Aside0 (wc.heap[gb423]? = some (.cells #[.int .i64 t416, .int .i64 t417, .int .i64 t418, (.slice Ao23 t419.length co23)] 26 (0, 0))) ∧ Aside0 (wc.heap[gb431]? = some (.cells #[.int .i64 t424, .int .i64 t425, .int .i64 t426, (.slice Ao29 t427.length co29)] 26 (0, 0))) ∧ Aside0 (wc.heap[gb450]? = some (.cells #[.int .i64 t432, .int .i64 t433, .int .i64 t434, (.slice Ao40 t435.length co40)] 26 (0, 0))) ∧ Aside0 (wc.heap[gb451]? = some (.cells #[.int .i64 t438, .int .i64 t439, .int .i64 t440, (.slice Ao46 t441.length co46)] 26 (0, 0))) ∧ Aside0 (wc.heap[gb452]? = some (.cells #[.int .i64 t444, .int .i64 t445, .int .i64 t446, (.slice Ao51 t447.length co51)] 26 (0, 0))) ∧ Aside0 (Below w.heap.size w wc))
         case first =>
          have H := HC84.out
          clear HC84
          by_cases c85 : (t422 != t430) = true
          ·rw [if_pos c85] at H
           have c85b0 : (t422 != t430) = true := c85
           (try (have c85b1 : decide (t422 = t430) = false := by simpa using c85))
           (try (have c85b2 : (t422 == t430) = false := by simpa using c85))
           (try (have c85b3 : ¬ (t422 = t430) := by simpa using c85))
           clear c85
           (first | rw [c85b0] | (simp only [i64_w, i32_w]; rw [c85b0]) | rw [show (!(t422 == t430)) = true from c85b0] | skip)
           have H' := Aside0.mk H
           clear H
           try go_wp2
           replace HO_414003 := zA (Kd.R_drew HO_414003.out)
           replace HO_424003 := zA (Kd.R_drew HO_424003.out)
           replace HO_432003 := zA (Kd.R_drew HO_432003.out)
           replace HO_451003 := zA (Kd.R_drew HO_451003.out)
           replace HO_452003 := zA (Kd.R_drew HO_452003.out)
           replace HO_453003 := zA (Kd.R_drew HO_453003.out)
           replace BK413 := zA (blk_drew BK413.out)
           replace BK423 := zA (blk_drew BK423.out)
           replace BK431 := zA (blk_drew BK431.out)
           replace BK450 := zA (blk_drew BK450.out)
           replace BK451 := zA (blk_drew BK451.out)
           replace BK452 := zA (blk_drew BK452.out)
           replace HB := zA (below_drew1 HB.out)
           refine start_ (n := 23) (S := fun w' => True) (ds := []) (Array.replicate 23 false) (by kernel_rfl) rfl rfl trivial (fun hHeld => ?_); refine with_tabW laws_FnVers.tab16 laws_FnVers.bits16 (fun HT_ HW_ => ?_)
           generalize wc.drew = w86 at HO_414003 HO_424003 HO_432003 HO_451003 HO_452003 HO_453003 BK413 BK423 BK431 BK450 BK451 BK452 HB hHeld ⊢
           refine zp 0 55 ?_
           refine zp 1 56 ?_
           refine zp 2 57 ?_
           refine zp 3 58 ?_
           refine zu 4 59 ?_
           refine zu 5 60 ?_
           refine zu 6 61 ?_
           refine zu 7 62 ?_
           refine zu 8 63 ?_
           refine zu 9 64 ?_
           refine zu 10 65 ?_
           refine zp 11 66 ?_
           refine zp 12 67 ?_
           refine zu 13 68 ?_
           refine zu 14 69 ?_
           refine zu 15 70 ?_
           refine zu 16 71 ?_
           refine zu 17 72 ?_
           refine zp 18 73 ?_
           refine zp 19 74 ?_
           refine zu 20 75 ?_
           refine zu 21 76 ?_
           refine zp 22 77 ?_
           refine done_ (done_of HT_.out (by kernel_rfl)) ?_
           try go_wp2
           go_meet
           case rel => exact ⟨_, (true), zS, (by first | exact H' | (subst_vars; exact H')), ⟨by have := HJ2.out; have := HJ11.out; have := HJ54.out; have := HJ69.out; first | omega | exact Nat.le_refl _⟩, ⟨zR HO_414003.out⟩, ⟨zR HO_424003.out⟩, ⟨zR HO_432003.out⟩, ⟨zR HO_451003.out⟩, ⟨zR HO_452003.out⟩, ⟨zR HO_453003.out⟩, ⟨zK BK413.out⟩, ⟨zK BK423.out⟩, ⟨zK BK431.out⟩, ⟨zK BK450.out⟩, ⟨zK BK451.out⟩, ⟨zK BK452.out⟩, ⟨zW HB.out⟩⟩
          ·rw [if_neg c85] at H
           have c85b0 : (t422 != t430) = false := by simpa using c85
           (try (have c85b1 : decide (t422 = t430) = true := by simpa using c85))
           (try (have c85b2 : (t422 == t430) = true := by simpa using c85))
           clear c85
           (first | rw [c85b0] | (simp only [i64_w, i32_w]; rw [c85b0]) | rw [show (!(t422 == t430)) = false from c85b0] | skip)
           by_cases c87 : t422 = true
           ·subst c87
            rw [if_pos rfl] at H
            replace H := Option.bind_eq_some_iff.mp H
            obtain ⟨t456, A880, H⟩ := H
            try dsimp only at H
            have A88 := Aside0.mk A880
            clear A880
            by_cases c89 : t456.toList = t415.toList
            ·rw [if_pos c89] at H
             have c89b0 : (t456.toList == t415.toList) = true := beq_iff_eq.mpr c89
             have c89b1 : (t456.toList != t415.toList) = false := bne_eq_false_iff_eq.mpr c89
             clear c89
             replace H := Option.bind_eq_some_iff.mp H
             obtain ⟨t457, A900, H⟩ := H
             try dsimp only at H
             have A90 := Aside0.mk A900
             clear A900
             replace H := Option.bind_eq_some_iff.mp H
             obtain ⟨t458, A910, H⟩ := H
             try dsimp only at H
             have A91 := Aside0.mk A910
             clear A910
             by_cases c92 : (t457 != t458) = true
             ·rw [if_pos c92] at H
              have c92b0 : (t457 != t458) = true := c92
              (try (have c92b1 : decide (t457 = t458) = false := by simpa using c92))
              (try (have c92b2 : (t457 == t458) = false := by simpa using c92))
              (try (have c92b3 : ¬ (t457 = t458) := by simpa using c92))
              clear c92
              have H' := Aside0.mk H
              clear H
              try go_wp2
              replace HO_414003 := zA (Kd.R_drew HO_414003.out)
              replace HO_424003 := zA (Kd.R_drew HO_424003.out)
              replace HO_432003 := zA (Kd.R_drew HO_432003.out)
              replace HO_451003 := zA (Kd.R_drew HO_451003.out)
              replace HO_452003 := zA (Kd.R_drew HO_452003.out)
              replace HO_453003 := zA (Kd.R_drew HO_453003.out)
              replace BK413 := zA (blk_drew BK413.out)
              replace BK423 := zA (blk_drew BK423.out)
              replace BK431 := zA (blk_drew BK431.out)
              replace BK450 := zA (blk_drew BK450.out)
              replace BK451 := zA (blk_drew BK451.out)
              replace BK452 := zA (blk_drew BK452.out)
              replace HB := zA (below_drew1 HB.out)
              refine start_ (n := 23) (S := fun w' => w'.cell? ⟨gb423, 0, none⟩ = some (.int .i64 t416) ∧ w'.cell? ⟨gb423, 1, none⟩ = some (.int .i64 t417) ∧ w'.cell? ⟨gb423, 2, none⟩ = some (.int .i64 t418) ∧ w'.cell? ⟨gb423, 3, none⟩ = some (.slice Ao23 t419.length co23) ∧ w'.cell? ⟨gb413, 0, none⟩ = some (.int .i64 t407) ∧ w'.cell? ⟨gb413, 1, none⟩ = some (.int .i64 t408) ∧ w'.cell? ⟨gb413, 2, none⟩ = some (.int .i64 t409) ∧ w'.cell? ⟨gb413, 3, none⟩ = some (.slice Ao16 t410.length co16)) (ds := []) (Array.replicate 23 false) (by kernel_rfl) rfl rfl ⟨(blk_cell BK423.out 0).trans rfl, (blk_cell BK423.out 1).trans rfl, (blk_cell BK423.out 2).trans rfl, (blk_cell BK423.out 3).trans rfl, (blk_cell BK413.out 0).trans rfl, (blk_cell BK413.out 1).trans rfl, (blk_cell BK413.out 2).trans rfl, (blk_cell BK413.out 3).trans rfl⟩ (fun hHeld => ?_); refine with_tabW laws_FnVers.tab16 laws_FnVers.bits16 (fun HT_ HW_ => ?_)
              generalize wc.drew = w93 at HO_414003 HO_424003 HO_432003 HO_451003 HO_452003 HO_453003 BK413 BK423 BK431 BK450 BK451 BK452 HB hHeld ⊢
              refine zp 0 55 ?_
              refine zp 1 56 ?_
              refine zp 2 57 ?_
              refine zp 3 58 ?_
              refine zp 4 59 ?_
              refine zp 5 60 ?_
              refine zp 8 63 ?_
              refine zt 6 61 ?_
              refine zo 7 (some 62) fun K hK => ?_
              refine goes_ Tryd.func7 (by kernel_rfl) rfl #[.agg #[.int .i64 t416, .int .i64 t417, .int .i64 t418, .slice Ao23 t419.length co23]] (by rfl) rfl rfl zM ?_
              with_reducible refine (impl_VerText.calls kj69 t416 t417 t418 _ _ t419 t456 _ ?side1 ?side2 ?side3 A88.out).mono ?_
              (case side1 => repeat (first | exact (Kd.R_reads' HO_424003.out).2.2 | (with_reducible refine Kd.C_alloc ?_ _) | (with_reducible refine Kd.C_drewN ?_ _) | (with_reducible refine Kd.C_drew ?_)))
              (case side2 => exact (Kd.R_reads' HO_424003.out).2.1)
              (case side3 => exact GW.below HG.out (zW HB.out))
              rintro e w94 ⟨rfl, hb⟩
              refine ⟨_, rfl, ?_⟩
              replace HO_414003 := zr HO_414003 hb
              replace HO_424003 := zr HO_424003 hb
              replace HO_432003 := zr HO_432003 hb
              replace HO_451003 := zr HO_451003 hb
              replace HO_452003 := zr HO_452003 hb
              replace HO_453003 := zr HO_453003 hb
              replace BK413 := zb BK413 hb
              replace BK423 := zb BK423 hb
              replace BK431 := zb BK431 hb
              replace BK450 := zb BK450 hb
              replace BK451 := zb BK451 hb
              replace BK452 := zb BK452 hb
              replace HB := zh HB hb
              (try clear hb)
              refine hK.out _ _ ⟨(blk_cell BK423.out 0).trans rfl, (blk_cell BK423.out 1).trans rfl, (blk_cell BK423.out 2).trans rfl, (blk_cell BK423.out 3).trans rfl, (blk_cell BK413.out 0).trans rfl, (blk_cell BK413.out 1).trans rfl, (blk_cell BK413.out 2).trans rfl, (blk_cell BK413.out 3).trans rfl⟩ (fun hHeld => ?_)
              clear hK K
              refine zn ?_
              refine zp 9 64 ?_
              refine zp 10 65 ?_
              refine zp 11 66 ?_
              refine zp 12 67 ?_
              refine zt 13 68 ?_
              refine zt 15 70 ?_
              refine zo 14 (some 69) fun K hK => ?_
              refine goes_ Tryd.func14 (by kernel_rfl) rfl #[.agg #[.int .i64 t407, .int .i64 t408, .int .i64 t409, .slice Ao16 t410.length co16]] (by rfl) rfl rfl zM ?_
              with_reducible refine (impl_VerOk.calls kj69 t407 t408 t409 _ _ t410 t457 _ ?side1 ?side2 A90.out).mono ?_
              (case side1 => repeat (first | exact (Kd.R_reads' HO_414003.out).2.2 | (with_reducible refine Kd.C_alloc ?_ _) | (with_reducible refine Kd.C_drewN ?_ _) | (with_reducible refine Kd.C_drew ?_)))
              (case side2 => exact (Kd.R_reads' HO_414003.out).2.1)
              rintro e w95 ⟨rfl, hb⟩
              refine ⟨_, rfl, ?_⟩
              replace HO_414003 := zr HO_414003 hb
              replace HO_424003 := zr HO_424003 hb
              replace HO_432003 := zr HO_432003 hb
              replace HO_451003 := zr HO_451003 hb
              replace HO_452003 := zr HO_452003 hb
              replace HO_453003 := zr HO_453003 hb
              replace BK413 := zb BK413 hb
              replace BK423 := zb BK423 hb
              replace BK431 := zb BK431 hb
              replace BK450 := zb BK450 hb
              replace BK451 := zb BK451 hb
              replace BK452 := zb BK452 hb
              replace HB := zh HB hb
              (try clear hb)
              refine hK.out _ _ ⟨(blk_cell BK423.out 0).trans rfl, (blk_cell BK423.out 1).trans rfl, (blk_cell BK423.out 2).trans rfl, (blk_cell BK423.out 3).trans rfl, (blk_cell BK413.out 0).trans rfl, (blk_cell BK413.out 1).trans rfl, (blk_cell BK413.out 2).trans rfl, (blk_cell BK413.out 3).trans rfl⟩ (fun hHeld => ?_)
              clear hK K
              refine zn ?_
              refine zo 16 (some 71) fun K hK => ?_
              refine goes_ Tryd.func15 (by kernel_rfl) rfl #[.agg #[.int .i64 t407, .int .i64 t408, .int .i64 t409, .slice Ao16 t410.length co16]] (by rfl) rfl rfl zM ?_
              with_reducible refine (spec_VerOk.calls kj69 t407 t408 t409 _ _ t410 t458 _ ?side1 ?side2 A91.out).mono ?_
              (case side1 => repeat (first | exact (Kd.R_reads' HO_414003.out).2.2 | (with_reducible refine Kd.C_alloc ?_ _) | (with_reducible refine Kd.C_drewN ?_ _) | (with_reducible refine Kd.C_drew ?_)))
              (case side2 => exact (Kd.R_reads' HO_414003.out).2.1)
              rintro e w96 ⟨rfl, hb⟩
              refine ⟨_, rfl, ?_⟩
              replace HO_414003 := zr HO_414003 hb
              replace HO_424003 := zr HO_424003 hb
              replace HO_432003 := zr HO_432003 hb
              replace HO_451003 := zr HO_451003 hb
              replace HO_452003 := zr HO_452003 hb
              replace HO_453003 := zr HO_453003 hb
              replace BK413 := zb BK413 hb
              replace BK423 := zb BK423 hb
              replace BK431 := zb BK431 hb
              replace BK450 := zb BK450 hb
              replace BK451 := zb BK451 hb
              replace BK452 := zb BK452 hb
              replace HB := zh HB hb
              (try clear hb)
              refine hK.out _ _ ⟨(blk_cell BK423.out 0).trans rfl, (blk_cell BK423.out 1).trans rfl, (blk_cell BK423.out 2).trans rfl, (blk_cell BK423.out 3).trans rfl, (blk_cell BK413.out 0).trans rfl, (blk_cell BK413.out 1).trans rfl, (blk_cell BK413.out 2).trans rfl, (blk_cell BK413.out 3).trans rfl⟩ (fun hHeld => ?_)
              clear hK K
              refine zn ?_
              refine zp 17 72 ?_
              refine zp 18 73 ?_
              refine zp 19 74 ?_
              refine zu 20 75 ?_
              refine zu 21 76 ?_
              refine zp 22 77 ?_
              refine done_ (done_of HT_.out (by kernel_rfl)) ?_
              try go_wp2
              go_meet
              case rel => exact ⟨_, (true), zS, (by first | exact H' | (subst_vars; exact H')), ⟨by have := HJ2.out; have := HJ11.out; have := HJ54.out; have := HJ69.out; first | omega | exact Nat.le_refl _⟩, ⟨zR HO_414003.out⟩, ⟨zR HO_424003.out⟩, ⟨zR HO_432003.out⟩, ⟨zR HO_451003.out⟩, ⟨zR HO_452003.out⟩, ⟨zR HO_453003.out⟩, ⟨zK BK413.out⟩, ⟨zK BK423.out⟩, ⟨zK BK431.out⟩, ⟨zK BK450.out⟩, ⟨zK BK451.out⟩, ⟨zK BK452.out⟩, ⟨zW HB.out⟩⟩
             ·rw [if_neg c92] at H
              have c92b0 : (t457 != t458) = false := by simpa using c92
              (try (have c92b1 : decide (t457 = t458) = true := by simpa using c92))
              (try (have c92b2 : (t457 == t458) = true := by simpa using c92))
              clear c92
              have H' := Aside0.mk H
              clear H
              try go_wp2
              replace HO_414003 := zA (Kd.R_drew HO_414003.out)
              replace HO_424003 := zA (Kd.R_drew HO_424003.out)
              replace HO_432003 := zA (Kd.R_drew HO_432003.out)
              replace HO_451003 := zA (Kd.R_drew HO_451003.out)
              replace HO_452003 := zA (Kd.R_drew HO_452003.out)
              replace HO_453003 := zA (Kd.R_drew HO_453003.out)
              replace BK413 := zA (blk_drew BK413.out)
              replace BK423 := zA (blk_drew BK423.out)
              replace BK431 := zA (blk_drew BK431.out)
              replace BK450 := zA (blk_drew BK450.out)
              replace BK451 := zA (blk_drew BK451.out)
              replace BK452 := zA (blk_drew BK452.out)
              replace HB := zA (below_drew1 HB.out)
              refine start_ (n := 23) (S := fun w' => w'.cell? ⟨gb423, 0, none⟩ = some (.int .i64 t416) ∧ w'.cell? ⟨gb423, 1, none⟩ = some (.int .i64 t417) ∧ w'.cell? ⟨gb423, 2, none⟩ = some (.int .i64 t418) ∧ w'.cell? ⟨gb423, 3, none⟩ = some (.slice Ao23 t419.length co23) ∧ w'.cell? ⟨gb413, 0, none⟩ = some (.int .i64 t407) ∧ w'.cell? ⟨gb413, 1, none⟩ = some (.int .i64 t408) ∧ w'.cell? ⟨gb413, 2, none⟩ = some (.int .i64 t409) ∧ w'.cell? ⟨gb413, 3, none⟩ = some (.slice Ao16 t410.length co16)) (ds := []) (Array.replicate 23 false) (by kernel_rfl) rfl rfl ⟨(blk_cell BK423.out 0).trans rfl, (blk_cell BK423.out 1).trans rfl, (blk_cell BK423.out 2).trans rfl, (blk_cell BK423.out 3).trans rfl, (blk_cell BK413.out 0).trans rfl, (blk_cell BK413.out 1).trans rfl, (blk_cell BK413.out 2).trans rfl, (blk_cell BK413.out 3).trans rfl⟩ (fun hHeld => ?_); refine with_tabW laws_FnVers.tab16 laws_FnVers.bits16 (fun HT_ HW_ => ?_)
              generalize wc.drew = w97 at HO_414003 HO_424003 HO_432003 HO_451003 HO_452003 HO_453003 BK413 BK423 BK431 BK450 BK451 BK452 HB hHeld ⊢
              refine zp 0 55 ?_
              refine zp 1 56 ?_
              refine zp 2 57 ?_
              refine zp 3 58 ?_
              refine zp 4 59 ?_
              refine zp 5 60 ?_
              refine zp 8 63 ?_
              refine zt 6 61 ?_
              refine zo 7 (some 62) fun K hK => ?_
              refine goes_ Tryd.func7 (by kernel_rfl) rfl #[.agg #[.int .i64 t416, .int .i64 t417, .int .i64 t418, .slice Ao23 t419.length co23]] (by rfl) rfl rfl zM ?_
              with_reducible refine (impl_VerText.calls kj69 t416 t417 t418 _ _ t419 t456 _ ?side1 ?side2 ?side3 A88.out).mono ?_
              (case side1 => repeat (first | exact (Kd.R_reads' HO_424003.out).2.2 | (with_reducible refine Kd.C_alloc ?_ _) | (with_reducible refine Kd.C_drewN ?_ _) | (with_reducible refine Kd.C_drew ?_)))
              (case side2 => exact (Kd.R_reads' HO_424003.out).2.1)
              (case side3 => exact GW.below HG.out (zW HB.out))
              rintro e w98 ⟨rfl, hb⟩
              refine ⟨_, rfl, ?_⟩
              replace HO_414003 := zr HO_414003 hb
              replace HO_424003 := zr HO_424003 hb
              replace HO_432003 := zr HO_432003 hb
              replace HO_451003 := zr HO_451003 hb
              replace HO_452003 := zr HO_452003 hb
              replace HO_453003 := zr HO_453003 hb
              replace BK413 := zb BK413 hb
              replace BK423 := zb BK423 hb
              replace BK431 := zb BK431 hb
              replace BK450 := zb BK450 hb
              replace BK451 := zb BK451 hb
              replace BK452 := zb BK452 hb
              replace HB := zh HB hb
              (try clear hb)
              refine hK.out _ _ ⟨(blk_cell BK423.out 0).trans rfl, (blk_cell BK423.out 1).trans rfl, (blk_cell BK423.out 2).trans rfl, (blk_cell BK423.out 3).trans rfl, (blk_cell BK413.out 0).trans rfl, (blk_cell BK413.out 1).trans rfl, (blk_cell BK413.out 2).trans rfl, (blk_cell BK413.out 3).trans rfl⟩ (fun hHeld => ?_)
              clear hK K
              refine zn ?_
              refine zp 9 64 ?_
              refine zp 10 65 ?_
              refine zp 11 66 ?_
              refine zp 12 67 ?_
              refine zt 13 68 ?_
              refine zt 15 70 ?_
              refine zo 14 (some 69) fun K hK => ?_
              refine goes_ Tryd.func14 (by kernel_rfl) rfl #[.agg #[.int .i64 t407, .int .i64 t408, .int .i64 t409, .slice Ao16 t410.length co16]] (by rfl) rfl rfl zM ?_
              with_reducible refine (impl_VerOk.calls kj69 t407 t408 t409 _ _ t410 t457 _ ?side1 ?side2 A90.out).mono ?_
              (case side1 => repeat (first | exact (Kd.R_reads' HO_414003.out).2.2 | (with_reducible refine Kd.C_alloc ?_ _) | (with_reducible refine Kd.C_drewN ?_ _) | (with_reducible refine Kd.C_drew ?_)))
              (case side2 => exact (Kd.R_reads' HO_414003.out).2.1)
              rintro e w99 ⟨rfl, hb⟩
              refine ⟨_, rfl, ?_⟩
              replace HO_414003 := zr HO_414003 hb
              replace HO_424003 := zr HO_424003 hb
              replace HO_432003 := zr HO_432003 hb
              replace HO_451003 := zr HO_451003 hb
              replace HO_452003 := zr HO_452003 hb
              replace HO_453003 := zr HO_453003 hb
              replace BK413 := zb BK413 hb
              replace BK423 := zb BK423 hb
              replace BK431 := zb BK431 hb
              replace BK450 := zb BK450 hb
              replace BK451 := zb BK451 hb
              replace BK452 := zb BK452 hb
              replace HB := zh HB hb
              (try clear hb)
              refine hK.out _ _ ⟨(blk_cell BK423.out 0).trans rfl, (blk_cell BK423.out 1).trans rfl, (blk_cell BK423.out 2).trans rfl, (blk_cell BK423.out 3).trans rfl, (blk_cell BK413.out 0).trans rfl, (blk_cell BK413.out 1).trans rfl, (blk_cell BK413.out 2).trans rfl, (blk_cell BK413.out 3).trans rfl⟩ (fun hHeld => ?_)
              clear hK K
              refine zn ?_
              refine zo 16 (some 71) fun K hK => ?_
              refine goes_ Tryd.func15 (by kernel_rfl) rfl #[.agg #[.int .i64 t407, .int .i64 t408, .int .i64 t409, .slice Ao16 t410.length co16]] (by rfl) rfl rfl zM ?_
              with_reducible refine (spec_VerOk.calls kj69 t407 t408 t409 _ _ t410 t458 _ ?side1 ?side2 A91.out).mono ?_
              (case side1 => repeat (first | exact (Kd.R_reads' HO_414003.out).2.2 | (with_reducible refine Kd.C_alloc ?_ _) | (with_reducible refine Kd.C_drewN ?_ _) | (with_reducible refine Kd.C_drew ?_)))
              (case side2 => exact (Kd.R_reads' HO_414003.out).2.1)
              rintro e w100 ⟨rfl, hb⟩
              refine ⟨_, rfl, ?_⟩
              replace HO_414003 := zr HO_414003 hb
              replace HO_424003 := zr HO_424003 hb
              replace HO_432003 := zr HO_432003 hb
              replace HO_451003 := zr HO_451003 hb
              replace HO_452003 := zr HO_452003 hb
              replace HO_453003 := zr HO_453003 hb
              replace BK413 := zb BK413 hb
              replace BK423 := zb BK423 hb
              replace BK431 := zb BK431 hb
              replace BK450 := zb BK450 hb
              replace BK451 := zb BK451 hb
              replace BK452 := zb BK452 hb
              replace HB := zh HB hb
              (try clear hb)
              refine hK.out _ _ ⟨(blk_cell BK423.out 0).trans rfl, (blk_cell BK423.out 1).trans rfl, (blk_cell BK423.out 2).trans rfl, (blk_cell BK423.out 3).trans rfl, (blk_cell BK413.out 0).trans rfl, (blk_cell BK413.out 1).trans rfl, (blk_cell BK413.out 2).trans rfl, (blk_cell BK413.out 3).trans rfl⟩ (fun hHeld => ?_)
              clear hK K
              refine zn ?_
              refine zp 17 72 ?_
              refine zp 18 73 ?_
              refine zp 19 74 ?_
              refine zp 20 75 ?_
              refine zp 21 76 ?_
              refine zp 22 77 ?_
              refine done_ (done_of HT_.out (by kernel_rfl)) ?_
              try go_wp2
              go_meet
              case rel => exact ⟨_, ((x13_69 != 1)), zS, (by first | exact H' | (subst_vars; exact H')), ⟨by have := HJ2.out; have := HJ11.out; have := HJ54.out; have := HJ69.out; first | omega | exact Nat.le_refl _⟩, ⟨zR HO_414003.out⟩, ⟨zR HO_424003.out⟩, ⟨zR HO_432003.out⟩, ⟨zR HO_451003.out⟩, ⟨zR HO_452003.out⟩, ⟨zR HO_453003.out⟩, ⟨zK BK413.out⟩, ⟨zK BK423.out⟩, ⟨zK BK431.out⟩, ⟨zK BK450.out⟩, ⟨zK BK451.out⟩, ⟨zK BK452.out⟩, ⟨zW HB.out⟩⟩
            ·rw [if_neg c89] at H
             have c89b0 : (t456.toList == t415.toList) = false := beq_eq_false_iff_ne.mpr c89
             have c89b1 : (t456.toList != t415.toList) = true := bne_iff_ne.mpr c89
             have H' := Aside0.mk H
             clear H
             try go_wp2
             replace HO_414003 := zA (Kd.R_drew HO_414003.out)
             replace HO_424003 := zA (Kd.R_drew HO_424003.out)
             replace HO_432003 := zA (Kd.R_drew HO_432003.out)
             replace HO_451003 := zA (Kd.R_drew HO_451003.out)
             replace HO_452003 := zA (Kd.R_drew HO_452003.out)
             replace HO_453003 := zA (Kd.R_drew HO_453003.out)
             replace BK413 := zA (blk_drew BK413.out)
             replace BK423 := zA (blk_drew BK423.out)
             replace BK431 := zA (blk_drew BK431.out)
             replace BK450 := zA (blk_drew BK450.out)
             replace BK451 := zA (blk_drew BK451.out)
             replace BK452 := zA (blk_drew BK452.out)
             replace HB := zA (below_drew1 HB.out)
             refine start_ (n := 23) (S := fun w' => w'.cell? ⟨gb423, 0, none⟩ = some (.int .i64 t416) ∧ w'.cell? ⟨gb423, 1, none⟩ = some (.int .i64 t417) ∧ w'.cell? ⟨gb423, 2, none⟩ = some (.int .i64 t418) ∧ w'.cell? ⟨gb423, 3, none⟩ = some (.slice Ao23 t419.length co23)) (ds := []) (Array.replicate 23 false) (by kernel_rfl) rfl rfl ⟨(blk_cell BK423.out 0).trans rfl, (blk_cell BK423.out 1).trans rfl, (blk_cell BK423.out 2).trans rfl, (blk_cell BK423.out 3).trans rfl⟩ (fun hHeld => ?_); refine with_tabW laws_FnVers.tab16 laws_FnVers.bits16 (fun HT_ HW_ => ?_)
             generalize wc.drew = w101 at HO_414003 HO_424003 HO_432003 HO_451003 HO_452003 HO_453003 BK413 BK423 BK431 BK450 BK451 BK452 HB hHeld ⊢
             refine zp 0 55 ?_
             refine zp 1 56 ?_
             refine zp 2 57 ?_
             refine zp 3 58 ?_
             refine zp 4 59 ?_
             refine zp 5 60 ?_
             refine zp 8 63 ?_
             refine zt 6 61 ?_
             refine zo 7 (some 62) fun K hK => ?_
             refine goes_ Tryd.func7 (by kernel_rfl) rfl #[.agg #[.int .i64 t416, .int .i64 t417, .int .i64 t418, .slice Ao23 t419.length co23]] (by rfl) rfl rfl zM ?_
             with_reducible refine (impl_VerText.calls kj69 t416 t417 t418 _ _ t419 t456 _ ?side1 ?side2 ?side3 A88.out).mono ?_
             (case side1 => repeat (first | exact (Kd.R_reads' HO_424003.out).2.2 | (with_reducible refine Kd.C_alloc ?_ _) | (with_reducible refine Kd.C_drewN ?_ _) | (with_reducible refine Kd.C_drew ?_)))
             (case side2 => exact (Kd.R_reads' HO_424003.out).2.1)
             (case side3 => exact GW.below HG.out (zW HB.out))
             rintro e w102 ⟨rfl, hb⟩
             refine ⟨_, rfl, ?_⟩
             replace HO_414003 := zr HO_414003 hb
             replace HO_424003 := zr HO_424003 hb
             replace HO_432003 := zr HO_432003 hb
             replace HO_451003 := zr HO_451003 hb
             replace HO_452003 := zr HO_452003 hb
             replace HO_453003 := zr HO_453003 hb
             replace BK413 := zb BK413 hb
             replace BK423 := zb BK423 hb
             replace BK431 := zb BK431 hb
             replace BK450 := zb BK450 hb
             replace BK451 := zb BK451 hb
             replace BK452 := zb BK452 hb
             replace HB := zh HB hb
             (try clear hb)
             refine hK.out _ _ ⟨(blk_cell BK423.out 0).trans rfl, (blk_cell BK423.out 1).trans rfl, (blk_cell BK423.out 2).trans rfl, (blk_cell BK423.out 3).trans rfl⟩ (fun hHeld => ?_)
             clear hK K
             refine zn ?_
             refine zp 9 64 ?_
             refine zp 10 65 ?_
             refine zp 11 66 ?_
             refine zp 12 67 ?_
             refine zu 13 68 ?_
             refine zu 14 69 ?_
             refine zu 15 70 ?_
             refine zu 16 71 ?_
             refine zu 17 72 ?_
             refine zp 18 73 ?_
             refine zp 19 74 ?_
             refine zu 20 75 ?_
             refine zu 21 76 ?_
             refine zp 22 77 ?_
             refine done_ (done_of HT_.out (by kernel_rfl)) ?_
             try go_wp2
             go_meet
             case rel => exact ⟨_, (true), zS, (by first | exact H' | (subst_vars; exact H')), ⟨by have := HJ2.out; have := HJ11.out; have := HJ54.out; have := HJ69.out; first | omega | exact Nat.le_refl _⟩, ⟨zR HO_414003.out⟩, ⟨zR HO_424003.out⟩, ⟨zR HO_432003.out⟩, ⟨zR HO_451003.out⟩, ⟨zR HO_452003.out⟩, ⟨zR HO_453003.out⟩, ⟨zK BK413.out⟩, ⟨zK BK423.out⟩, ⟨zK BK431.out⟩, ⟨zK BK450.out⟩, ⟨zK BK451.out⟩, ⟨zK BK452.out⟩, ⟨zW HB.out⟩⟩
           ·replace c87 := Bool.eq_false_iff.mpr c87
            subst c87
            rw [if_neg zFT] at H
            replace H := Option.bind_eq_some_iff.mp H
            obtain ⟨t459, A1030, H⟩ := H
            try dsimp only at H
            have A103 := Aside0.mk A1030
            clear A1030
            replace H := Option.bind_eq_some_iff.mp H
            obtain ⟨t460, A1040, H⟩ := H
            try dsimp only at H
            have A104 := Aside0.mk A1040
            clear A1040
            by_cases c105 : (t459 != t460) = true
            ·rw [if_pos c105] at H
             have c105b0 : (t459 != t460) = true := c105
             (try (have c105b1 : decide (t459 = t460) = false := by simpa using c105))
             (try (have c105b2 : (t459 == t460) = false := by simpa using c105))
             (try (have c105b3 : ¬ (t459 = t460) := by simpa using c105))
             clear c105
             have H' := Aside0.mk H
             clear H
             try go_wp2
             replace HO_414003 := zA (Kd.R_drew HO_414003.out)
             replace HO_424003 := zA (Kd.R_drew HO_424003.out)
             replace HO_432003 := zA (Kd.R_drew HO_432003.out)
             replace HO_451003 := zA (Kd.R_drew HO_451003.out)
             replace HO_452003 := zA (Kd.R_drew HO_452003.out)
             replace HO_453003 := zA (Kd.R_drew HO_453003.out)
             replace BK413 := zA (blk_drew BK413.out)
             replace BK423 := zA (blk_drew BK423.out)
             replace BK431 := zA (blk_drew BK431.out)
             replace BK450 := zA (blk_drew BK450.out)
             replace BK451 := zA (blk_drew BK451.out)
             replace BK452 := zA (blk_drew BK452.out)
             replace HB := zA (below_drew1 HB.out)
             refine start_ (n := 23) (S := fun w' => w'.cell? ⟨gb413, 0, none⟩ = some (.int .i64 t407) ∧ w'.cell? ⟨gb413, 1, none⟩ = some (.int .i64 t408) ∧ w'.cell? ⟨gb413, 2, none⟩ = some (.int .i64 t409) ∧ w'.cell? ⟨gb413, 3, none⟩ = some (.slice Ao16 t410.length co16)) (ds := []) (Array.replicate 23 false) (by kernel_rfl) rfl rfl ⟨(blk_cell BK413.out 0).trans rfl, (blk_cell BK413.out 1).trans rfl, (blk_cell BK413.out 2).trans rfl, (blk_cell BK413.out 3).trans rfl⟩ (fun hHeld => ?_); refine with_tabW laws_FnVers.tab16 laws_FnVers.bits16 (fun HT_ HW_ => ?_)
             generalize wc.drew = w106 at HO_414003 HO_424003 HO_432003 HO_451003 HO_452003 HO_453003 BK413 BK423 BK431 BK450 BK451 BK452 HB hHeld ⊢
             refine zp 0 55 ?_
             refine zp 1 56 ?_
             refine zp 2 57 ?_
             refine zp 3 58 ?_
             refine zp 4 59 ?_
             refine zp 5 60 ?_
             refine zu 6 61 ?_
             refine zu 7 62 ?_
             refine zu 8 63 ?_
             refine zu 9 64 ?_
             refine zp 10 65 ?_
             refine zp 11 66 ?_
             refine zp 12 67 ?_
             refine zt 13 68 ?_
             refine zt 15 70 ?_
             refine zo 14 (some 69) fun K hK => ?_
             refine goes_ Tryd.func14 (by kernel_rfl) rfl #[.agg #[.int .i64 t407, .int .i64 t408, .int .i64 t409, .slice Ao16 t410.length co16]] (by rfl) rfl rfl zM ?_
             with_reducible refine (impl_VerOk.calls kj69 t407 t408 t409 _ _ t410 t459 _ ?side1 ?side2 A103.out).mono ?_
             (case side1 => repeat (first | exact (Kd.R_reads' HO_414003.out).2.2 | (with_reducible refine Kd.C_alloc ?_ _) | (with_reducible refine Kd.C_drewN ?_ _) | (with_reducible refine Kd.C_drew ?_)))
             (case side2 => exact (Kd.R_reads' HO_414003.out).2.1)
             rintro e w107 ⟨rfl, hb⟩
             refine ⟨_, rfl, ?_⟩
             replace HO_414003 := zr HO_414003 hb
             replace HO_424003 := zr HO_424003 hb
             replace HO_432003 := zr HO_432003 hb
             replace HO_451003 := zr HO_451003 hb
             replace HO_452003 := zr HO_452003 hb
             replace HO_453003 := zr HO_453003 hb
             replace BK413 := zb BK413 hb
             replace BK423 := zb BK423 hb
             replace BK431 := zb BK431 hb
             replace BK450 := zb BK450 hb
             replace BK451 := zb BK451 hb
             replace BK452 := zb BK452 hb
             replace HB := zh HB hb
             (try clear hb)
             refine hK.out _ _ ⟨(blk_cell BK413.out 0).trans rfl, (blk_cell BK413.out 1).trans rfl, (blk_cell BK413.out 2).trans rfl, (blk_cell BK413.out 3).trans rfl⟩ (fun hHeld => ?_)
             clear hK K
             refine zn ?_
             refine zo 16 (some 71) fun K hK => ?_
             refine goes_ Tryd.func15 (by kernel_rfl) rfl #[.agg #[.int .i64 t407, .int .i64 t408, .int .i64 t409, .slice Ao16 t410.length co16]] (by rfl) rfl rfl zM ?_
             with_reducible refine (spec_VerOk.calls kj69 t407 t408 t409 _ _ t410 t460 _ ?side1 ?side2 A104.out).mono ?_
             (case side1 => repeat (first | exact (Kd.R_reads' HO_414003.out).2.2 | (with_reducible refine Kd.C_alloc ?_ _) | (with_reducible refine Kd.C_drewN ?_ _) | (with_reducible refine Kd.C_drew ?_)))
             (case side2 => exact (Kd.R_reads' HO_414003.out).2.1)
             rintro e w108 ⟨rfl, hb⟩
             refine ⟨_, rfl, ?_⟩
             replace HO_414003 := zr HO_414003 hb
             replace HO_424003 := zr HO_424003 hb
             replace HO_432003 := zr HO_432003 hb
             replace HO_451003 := zr HO_451003 hb
             replace HO_452003 := zr HO_452003 hb
             replace HO_453003 := zr HO_453003 hb
             replace BK413 := zb BK413 hb
             replace BK423 := zb BK423 hb
             replace BK431 := zb BK431 hb
             replace BK450 := zb BK450 hb
             replace BK451 := zb BK451 hb
             replace BK452 := zb BK452 hb
             replace HB := zh HB hb
             (try clear hb)
             refine hK.out _ _ ⟨(blk_cell BK413.out 0).trans rfl, (blk_cell BK413.out 1).trans rfl, (blk_cell BK413.out 2).trans rfl, (blk_cell BK413.out 3).trans rfl⟩ (fun hHeld => ?_)
             clear hK K
             refine zn ?_
             refine zp 17 72 ?_
             refine zp 18 73 ?_
             refine zp 19 74 ?_
             refine zu 20 75 ?_
             refine zu 21 76 ?_
             refine zp 22 77 ?_
             refine done_ (done_of HT_.out (by kernel_rfl)) ?_
             try go_wp2
             go_meet
             case rel => exact ⟨_, (true), zS, (by first | exact H' | (subst_vars; exact H')), ⟨by have := HJ2.out; have := HJ11.out; have := HJ54.out; have := HJ69.out; first | omega | exact Nat.le_refl _⟩, ⟨zR HO_414003.out⟩, ⟨zR HO_424003.out⟩, ⟨zR HO_432003.out⟩, ⟨zR HO_451003.out⟩, ⟨zR HO_452003.out⟩, ⟨zR HO_453003.out⟩, ⟨zK BK413.out⟩, ⟨zK BK423.out⟩, ⟨zK BK431.out⟩, ⟨zK BK450.out⟩, ⟨zK BK451.out⟩, ⟨zK BK452.out⟩, ⟨zW HB.out⟩⟩
            ·rw [if_neg c105] at H
             have c105b0 : (t459 != t460) = false := by simpa using c105
             (try (have c105b1 : decide (t459 = t460) = true := by simpa using c105))
             (try (have c105b2 : (t459 == t460) = true := by simpa using c105))
             clear c105
             have H' := Aside0.mk H
             clear H
             try go_wp2
             replace HO_414003 := zA (Kd.R_drew HO_414003.out)
             replace HO_424003 := zA (Kd.R_drew HO_424003.out)
             replace HO_432003 := zA (Kd.R_drew HO_432003.out)
             replace HO_451003 := zA (Kd.R_drew HO_451003.out)
             replace HO_452003 := zA (Kd.R_drew HO_452003.out)
             replace HO_453003 := zA (Kd.R_drew HO_453003.out)
             replace BK413 := zA (blk_drew BK413.out)
             replace BK423 := zA (blk_drew BK423.out)
             replace BK431 := zA (blk_drew BK431.out)
             replace BK450 := zA (blk_drew BK450.out)
             replace BK451 := zA (blk_drew BK451.out)
             replace BK452 := zA (blk_drew BK452.out)
             replace HB := zA (below_drew1 HB.out)
             refine start_ (n := 23) (S := fun w' => w'.cell? ⟨gb413, 0, none⟩ = some (.int .i64 t407) ∧ w'.cell? ⟨gb413, 1, none⟩ = some (.int .i64 t408) ∧ w'.cell? ⟨gb413, 2, none⟩ = some (.int .i64 t409) ∧ w'.cell? ⟨gb413, 3, none⟩ = some (.slice Ao16 t410.length co16)) (ds := []) (Array.replicate 23 false) (by kernel_rfl) rfl rfl ⟨(blk_cell BK413.out 0).trans rfl, (blk_cell BK413.out 1).trans rfl, (blk_cell BK413.out 2).trans rfl, (blk_cell BK413.out 3).trans rfl⟩ (fun hHeld => ?_); refine with_tabW laws_FnVers.tab16 laws_FnVers.bits16 (fun HT_ HW_ => ?_)
             generalize wc.drew = w109 at HO_414003 HO_424003 HO_432003 HO_451003 HO_452003 HO_453003 BK413 BK423 BK431 BK450 BK451 BK452 HB hHeld ⊢
             refine zp 0 55 ?_
             refine zp 1 56 ?_
             refine zp 2 57 ?_
             refine zp 3 58 ?_
             refine zp 4 59 ?_
             refine zp 5 60 ?_
             refine zu 6 61 ?_
             refine zu 7 62 ?_
             refine zu 8 63 ?_
             refine zu 9 64 ?_
             refine zp 10 65 ?_
             refine zp 11 66 ?_
             refine zp 12 67 ?_
             refine zt 13 68 ?_
             refine zt 15 70 ?_
             refine zo 14 (some 69) fun K hK => ?_
             refine goes_ Tryd.func14 (by kernel_rfl) rfl #[.agg #[.int .i64 t407, .int .i64 t408, .int .i64 t409, .slice Ao16 t410.length co16]] (by rfl) rfl rfl zM ?_
             with_reducible refine (impl_VerOk.calls kj69 t407 t408 t409 _ _ t410 t459 _ ?side1 ?side2 A103.out).mono ?_
             (case side1 => repeat (first | exact (Kd.R_reads' HO_414003.out).2.2 | (with_reducible refine Kd.C_alloc ?_ _) | (with_reducible refine Kd.C_drewN ?_ _) | (with_reducible refine Kd.C_drew ?_)))
             (case side2 => exact (Kd.R_reads' HO_414003.out).2.1)
             rintro e w110 ⟨rfl, hb⟩
             refine ⟨_, rfl, ?_⟩
             replace HO_414003 := zr HO_414003 hb
             replace HO_424003 := zr HO_424003 hb
             replace HO_432003 := zr HO_432003 hb
             replace HO_451003 := zr HO_451003 hb
             replace HO_452003 := zr HO_452003 hb
             replace HO_453003 := zr HO_453003 hb
             replace BK413 := zb BK413 hb
             replace BK423 := zb BK423 hb
             replace BK431 := zb BK431 hb
             replace BK450 := zb BK450 hb
             replace BK451 := zb BK451 hb
             replace BK452 := zb BK452 hb
             replace HB := zh HB hb
             (try clear hb)
             refine hK.out _ _ ⟨(blk_cell BK413.out 0).trans rfl, (blk_cell BK413.out 1).trans rfl, (blk_cell BK413.out 2).trans rfl, (blk_cell BK413.out 3).trans rfl⟩ (fun hHeld => ?_)
             clear hK K
             refine zn ?_
             refine zo 16 (some 71) fun K hK => ?_
             refine goes_ Tryd.func15 (by kernel_rfl) rfl #[.agg #[.int .i64 t407, .int .i64 t408, .int .i64 t409, .slice Ao16 t410.length co16]] (by rfl) rfl rfl zM ?_
             with_reducible refine (spec_VerOk.calls kj69 t407 t408 t409 _ _ t410 t460 _ ?side1 ?side2 A104.out).mono ?_
             (case side1 => repeat (first | exact (Kd.R_reads' HO_414003.out).2.2 | (with_reducible refine Kd.C_alloc ?_ _) | (with_reducible refine Kd.C_drewN ?_ _) | (with_reducible refine Kd.C_drew ?_)))
             (case side2 => exact (Kd.R_reads' HO_414003.out).2.1)
             rintro e w111 ⟨rfl, hb⟩
             refine ⟨_, rfl, ?_⟩
             replace HO_414003 := zr HO_414003 hb
             replace HO_424003 := zr HO_424003 hb
             replace HO_432003 := zr HO_432003 hb
             replace HO_451003 := zr HO_451003 hb
             replace HO_452003 := zr HO_452003 hb
             replace HO_453003 := zr HO_453003 hb
             replace BK413 := zb BK413 hb
             replace BK423 := zb BK423 hb
             replace BK431 := zb BK431 hb
             replace BK450 := zb BK450 hb
             replace BK451 := zb BK451 hb
             replace BK452 := zb BK452 hb
             replace HB := zh HB hb
             (try clear hb)
             refine hK.out _ _ ⟨(blk_cell BK413.out 0).trans rfl, (blk_cell BK413.out 1).trans rfl, (blk_cell BK413.out 2).trans rfl, (blk_cell BK413.out 3).trans rfl⟩ (fun hHeld => ?_)
             clear hK K
             refine zn ?_
             refine zp 17 72 ?_
             refine zp 18 73 ?_
             refine zp 19 74 ?_
             refine zp 20 75 ?_
             refine zp 21 76 ?_
             refine zp 22 77 ?_
             refine done_ (done_of HT_.out (by kernel_rfl)) ?_
             try go_wp2
             go_meet
             case rel => exact ⟨_, ((x13_69 != 1)), zS, (by first | exact H' | (subst_vars; exact H')), ⟨by have := HJ2.out; have := HJ11.out; have := HJ54.out; have := HJ69.out; first | omega | exact Nat.le_refl _⟩, ⟨zR HO_414003.out⟩, ⟨zR HO_424003.out⟩, ⟨zR HO_432003.out⟩, ⟨zR HO_451003.out⟩, ⟨zR HO_452003.out⟩, ⟨zR HO_453003.out⟩, ⟨zK BK413.out⟩, ⟨zK BK423.out⟩, ⟨zK BK431.out⟩, ⟨zK BK450.out⟩, ⟨zK BK451.out⟩, ⟨zK BK452.out⟩, ⟨zW HB.out⟩⟩
         case rest =>
          clear HC84
          try clear c1
          try clear p2
          try clear c10
          try clear c14
          try clear c15
          try clear c105
          try clear c105b0
          try clear c105b1
          try clear c105b2
          obtain ⟨kq, x77_83, rfl, HA, HJ83, HO_414003, HO_424003, HO_432003, HO_451003, HO_452003, HO_453003, BK413, BK423, BK431, BK450, BK451, BK452, HB⟩ := hcut
          cases kq with
          | zero => exact absurd HA.out (by simp [laws_FnVers.j4])
          | succ kj83 =>
           have H := HA.out
           clear HA
           simp only [laws_FnVers.j4] at H
           have HC112 := Aside0.mk H
           clear H
           go_upto_if 77 with (fail)
           go_cut [] (fun wc => ∃ (kq : Nat), Aside0 (laws_FnVers.j5 kq t414 t407 t408 t409 t410 t432 t433 t434 t435 t438 t439 t440 t441 t444 t445 t446 t447 = some r) ∧ Aside0 (kq ≤ kj83) ∧ Aside0 (Kd.R Kd.string 9 wc w.heap.size (fun k_ => some k_ ≠ ((.slice Ao23 t419.length co23) : Value).ownBlock ∧ some k_ ≠ ((.slice Ao29 t427.length co29) : Value).ownBlock ∧ some k_ ≠ ((.slice Ao40 t435.length co40) : Value).ownBlock ∧ some k_ ≠ ((.slice Ao46 t441.length co46) : Value).ownBlock ∧ some k_ ≠ ((.slice Ao51 t447.length co51) : Value).ownBlock) (.slice Ao16 t410.length co16) t410) ∧ Aside0 (Kd.R Kd.string 9 wc w.heap.size (fun k_ => some k_ ≠ ((.slice Ao16 t410.length co16) : Value).ownBlock ∧ some k_ ≠ ((.slice Ao29 t427.length co29) : Value).ownBlock ∧ some k_ ≠ ((.slice Ao40 t435.length co40) : Value).ownBlock ∧ some k_ ≠ ((.slice Ao46 t441.length co46) : Value).ownBlock ∧ some k_ ≠ ((.slice Ao51 t447.length co51) : Value).ownBlock) (.slice Ao23 t419.length co23) t419) ∧ Aside0 (Kd.R Kd.string 9 wc w.heap.size (fun k_ => some k_ ≠ ((.slice Ao16 t410.length co16) : Value).ownBlock ∧ some k_ ≠ ((.slice Ao23 t419.length co23) : Value).ownBlock ∧ some k_ ≠ ((.slice Ao40 t435.length co40) : Value).ownBlock ∧ some k_ ≠ ((.slice Ao46 t441.length co46) : Value).ownBlock ∧ some k_ ≠ ((.slice Ao51 t447.length co51) : Value).ownBlock) (.slice Ao29 t427.length co29) t427) ∧ Aside0 (Kd.R Kd.string 9 wc w.heap.size (fun k_ => some k_ ≠ ((.slice Ao16 t410.length co16) : Value).ownBlock ∧ some k_ ≠ ((.slice Ao23 t419.length co23) : Value).ownBlock ∧ some k_ ≠ ((.slice Ao29 t427.length co29) : Value).ownBlock ∧ some k_ ≠ ((.slice Ao46 t441.length co46) : Value).ownBlock ∧ some k_ ≠ ((.slice Ao51 t447.length co51) : Value).ownBlock) (.slice Ao40 t435.length co40) t435) ∧ Aside0 (Kd.R Kd.string 9 wc w.heap.size (fun k_ => some k_ ≠ ((.slice Ao16 t410.length co16) : Value).ownBlock ∧ some k_ ≠ ((.slice Ao23 t419.length co23) : Value).ownBlock ∧ some k_ ≠ ((.slice Ao29 t427.length co29) : Value).ownBlock ∧ some k_ ≠ ((.slice Ao40 t435.length co40) : Value).ownBlock ∧ some k_ ≠ ((.slice Ao51 t447.length co51) : Value).ownBlock) (.slice Ao46 t441.length co46) t441) ∧ Aside0 (Kd.R Kd.string 9 wc w.heap.size (fun k_ => some k_ ≠ ((.slice Ao16 t410.length co16) : Value).ownBlock ∧ some k_ ≠ ((.slice Ao23 t419.length co23) : Value).ownBlock ∧ some k_ ≠ ((.slice Ao29 t427.length co29) : Value).ownBlock ∧ some k_ ≠ ((.slice Ao40 t435.length co40) : Value).ownBlock ∧ some k_ ≠ ((.slice Ao46 t441.length co46) : Value).ownBlock) (.slice Ao51 t447.length co51) t447) ∧ Aside0 (wc.heap[gb413]? = some (.cells #[.int .i64 t407, .int .i64 t408, .int .i64 t409, (.slice Ao16 t410.length co16)] 26 (0, 0))) ∧ Aside0 (wc.heap[gb423]? = some (.cells #[.int .i64 t416, .int .i64 t417, .int .i64 t418, (.slice Ao23 t419.length co23)] 26 (0, 0))) ∧ Aside0 (wc.heap[gb431]? = some (.cells #[.int .i64 t424, .int .i64 t425, .int .i64 t426, (.slice Ao29 t427.length co29)] 26 (0, 0))) ∧ Aside0 (wc.heap[gb450]? = some (.cells #[.int .i64 t432, .int .i64 t433, .int .i64 t434, (.slice Ao40 t435.length co40)] 26 (0, 0))) ∧ Aside0 (wc.heap[gb451]? = some (.cells #[.int .i64 t438, .int .i64 t439, .int .i64 t440, (.slice Ao46 t441.length co46)] 26 (0, 0))) ∧ Aside0 (wc.heap[gb452]? = some (.cells #[.int .i64 t444, .int .i64 t445, .int .i64 t446, (.slice Ao51 t447.length co51)] 26 (0, 0))) ∧ Aside0 (Below w.heap.size w wc))
           case first =>
            have H := HC112.out
            clear HC112
            by_cases c113 : x77_83 = true
            ·subst c113
             rw [if_pos rfl] at H
             exact absurd H (by simp)
            ·replace c113 := Bool.eq_false_iff.mpr c113
             subst c113
             rw [if_neg zFT] at H
             have H' := Aside0.mk H
             clear H
             go_wp2
             go_meet
             case rel => exact ⟨_, (by first | exact H' | (subst_vars; exact H')), ⟨by have := HJ2.out; have := HJ11.out; have := HJ54.out; have := HJ69.out; have := HJ83.out; first | omega | exact Nat.le_refl _⟩, ⟨zR HO_414003.out⟩, ⟨zR HO_424003.out⟩, ⟨zR HO_432003.out⟩, ⟨zR HO_451003.out⟩, ⟨zR HO_452003.out⟩, ⟨zR HO_453003.out⟩, ⟨zK BK413.out⟩, ⟨zK BK423.out⟩, ⟨zK BK431.out⟩, ⟨zK BK450.out⟩, ⟨zK BK451.out⟩, ⟨zK BK452.out⟩, ⟨zW HB.out⟩⟩
           case rest =>
            clear HC112
            try clear c1
            try clear p2
            try clear c10
            try clear c11
            try clear c14
            try clear c15
            try clear c105
            try clear c105b0
            try clear c105b1
            try clear c105b2
            try clear c113
            try clear p2
            obtain ⟨kq, HA, HJ111, HO_414003, HO_424003, HO_432003, HO_451003, HO_452003, HO_453003, BK413, BK423, BK431, BK450, BK451, BK452, HB⟩ := hcut
            cases kq with
            | zero => exact absurd HA.out (by simp [laws_FnVers.j5])
            | succ kj111 =>
             have H := HA.out
             clear HA
             simp only [laws_FnVers.j5] at H
             have HC114 := Aside0.mk H
             clear H
             go_upto_region 18 with (fail)
             go_cut [91] (fun v91 wc => ∃ (kq : Nat) (x91_113 : Bool), v91 = .bool x91_113 ∧ Aside0 (laws_FnVers.j6 kq t414 x91_113 t407 t408 t409 t410 = some r) ∧ Aside0 (kq ≤ kj111) ∧ Aside0 (Kd.R Kd.string 9 wc w.heap.size (fun k_ => some k_ ≠ ((.slice Ao23 t419.length co23) : Value).ownBlock ∧ some k_ ≠ ((.slice Ao29 t427.length co29) : Value).ownBlock ∧ some k_ ≠ ((.slice Ao40 t435.length co40) : Value).ownBlock ∧ some k_ ≠ ((.slice Ao46 t441.length co46) : Value).ownBlock ∧ some k_ ≠ ((.slice Ao51 t447.length co51) : Value).ownBlock) (.slice Ao16 t410.length co16) t410) ∧ Aside0 (Kd.R Kd.string 9 wc w.heap.size (fun k_ => some k_ ≠ ((.slice Ao16 t410.length co16) : Value).ownBlock ∧ some k_ ≠ ((.slice Ao29 t427.length co29) : Value).ownBlock ∧ some k_ ≠ ((.slice Ao40 t435.length co40) : Value).ownBlock ∧ some k_ ≠ ((.slice Ao46 t441.length co46) : Value).ownBlock ∧ some k_ ≠ ((.slice Ao51 t447.length co51) : Value).ownBlock) (.slice Ao23 t419.length co23) t419) ∧ Aside0 (Kd.R Kd.string 9 wc w.heap.size (fun k_ => some k_ ≠ ((.slice Ao16 t410.length co16) : Value).ownBlock ∧ some k_ ≠ ((.slice Ao23 t419.length co23) : Value).ownBlock ∧ some k_ ≠ ((.slice Ao40 t435.length co40) : Value).ownBlock ∧ some k_ ≠ ((.slice Ao46 t441.length co46) : Value).ownBlock ∧ some k_ ≠ ((.slice Ao51 t447.length co51) : Value).ownBlock) (.slice Ao29 t427.length co29) t427) ∧ Aside0 (Kd.R Kd.string 9 wc w.heap.size (fun k_ => some k_ ≠ ((.slice Ao16 t410.length co16) : Value).ownBlock ∧ some k_ ≠ ((.slice Ao23 t419.length co23) : Value).ownBlock ∧ some k_ ≠ ((.slice Ao29 t427.length co29) : Value).ownBlock ∧ some k_ ≠ ((.slice Ao46 t441.length co46) : Value).ownBlock ∧ some k_ ≠ ((.slice Ao51 t447.length co51) : Value).ownBlock) (.slice Ao40 t435.length co40) t435) ∧ Aside0 (Kd.R Kd.string 9 wc w.heap.size (fun k_ => some k_ ≠ ((.slice Ao16 t410.length co16) : Value).ownBlock ∧ some k_ ≠ ((.slice Ao23 t419.length co23) : Value).ownBlock ∧ some k_ ≠ ((.slice Ao29 t427.length co29) : Value).ownBlock ∧ some k_ ≠ ((.slice Ao40 t435.length co40) : Value).ownBlock ∧ some k_ ≠ ((.slice Ao51 t447.length co51) : Value).ownBlock) (.slice Ao46 t441.length co46) t441) ∧ Aside0 (Kd.R Kd.string 9 wc w.heap.size (fun k_ => some k_ ≠ ((.slice Ao16 t410.length co16) : Value).ownBlock ∧ some k_ ≠ ((.slice Ao23 t419.length co23) : Value).ownBlock ∧ some k_ ≠ ((.slice Ao29 t427.length co29) : Value).ownBlock ∧ some k_ ≠ ((.slice Ao40 t435.length co40) : Value).ownBlock ∧ some k_ ≠ ((.slice Ao46 t441.length co46) : Value).ownBlock) (.slice Ao51 t447.length co51) t447) ∧ Aside0 (wc.heap[gb413]? = some (.cells #[.int .i64 t407, .int .i64 t408, .int .i64 t409, (.slice Ao16 t410.length co16)] 26 (0, 0))) ∧ Aside0 (wc.heap[gb423]? = some (.cells #[.int .i64 t416, .int .i64 t417, .int .i64 t418, (.slice Ao23 t419.length co23)] 26 (0, 0))) ∧ Aside0 (wc.heap[gb431]? = some (.cells #[.int .i64 t424, .int .i64 t425, .int .i64 t426, (.slice Ao29 t427.length co29)] 26 (0, 0))) ∧ Aside0 (wc.heap[gb450]? = some (.cells #[.int .i64 t432, .int .i64 t433, .int .i64 t434, (.slice Ao40 t435.length co40)] 26 (0, 0))) ∧ Aside0 (wc.heap[gb451]? = some (.cells #[.int .i64 t438, .int .i64 t439, .int .i64 t440, (.slice Ao46 t441.length co46)] 26 (0, 0))) ∧ Aside0 (wc.heap[gb452]? = some (.cells #[.int .i64 t444, .int .i64 t445, .int .i64 t446, (.slice Ao51 t447.length co51)] 26 (0, 0))) ∧ Aside0 (Below w.heap.size w wc))
             case first =>
              have H := HC114.out
              clear HC114
              replace H := Option.bind_eq_some_iff.mp H
              obtain ⟨t461, A1150, H⟩ := H
              try dsimp only at H
              have A115 := Aside0.mk A1150
              clear A1150
              by_cases c116 : t461 = true
              ·subst c116
               rw [if_pos rfl] at H
               replace H := Option.bind_eq_some_iff.mp H
               obtain ⟨t462, A1170, H⟩ := H
               try dsimp only at H
               have A117 := Aside0.mk A1170
               clear A1170
               by_cases c118 : t462 = true
               ·subst c118
                rw [if_pos rfl] at H
                replace H := Option.bind_eq_some_iff.mp H
                obtain ⟨t463, A1190, H⟩ := H
                try dsimp only at H
                have A119 := Aside0.mk A1190
                clear A1190
                have H' := Aside0.mk H
                clear H
                have hnb120 := NB450_413.out
                have hnc120 := NB413_450.out
                have hnb121 := NB450_423.out
                have hnc121 := NB423_450.out
                have hnb122 := NB450_431.out
                have hnc122 := NB431_450.out
                have hnb123 := NB450_451.out
                have hnc123 := NB451_450.out
                have hnb124 := NB450_452.out
                have hnc124 := NB452_450.out
                obtain ⟨hcz125_0, hcz125_1, hcz125_2, hcz125_3, hfz125_0, hfz125_1, hfz125_2, hfz125_3⟩ := ze4 BK450.out
                have hnb126 := NB451_413.out
                have hnc126 := NB413_451.out
                have hnb127 := NB451_423.out
                have hnc127 := NB423_451.out
                have hnb128 := NB451_431.out
                have hnc128 := NB431_451.out
                have hnb129 := NB451_452.out
                have hnc129 := NB452_451.out
                obtain ⟨hcz130_0, hcz130_1, hcz130_2, hcz130_3, hfz130_0, hfz130_1, hfz130_2, hfz130_3⟩ := ze4 BK451.out
                go_wp2_with (first | ((with_reducible refine zq 12 ?_); refine zg (some 80) Tryd.func12 #[.agg #[.int .i64 t432, .int .i64 t433, .int .i64 t434, .slice Ao40 t435.length co40], .agg #[.int .i64 t438, .int .i64 t439, .int .i64 t440, .slice Ao46 t441.length co46]] ?_; (with_reducible refine (impl_LessVer.calls kj111 t432 t433 t434 _ _ t435 t438 t439 t440 _ _ t441 true _ ?side1 ?side2 ?side3 ?side4 A115.out).mono ?_); (case side1 => repeat (first | exact (Kd.R_reads' HO_451003.out).2.2 | (with_reducible refine Kd.C_alloc ?_ _) | (with_reducible refine Kd.C_drewN ?_ _) | (with_reducible refine Kd.C_drew ?_))); (case side2 => exact (Kd.R_reads' HO_451003.out).2.1); (case side3 => repeat (first | exact (Kd.R_reads' HO_452003.out).2.2 | (with_reducible refine Kd.C_alloc ?_ _) | (with_reducible refine Kd.C_drewN ?_ _) | (with_reducible refine Kd.C_drew ?_))); (case side4 => exact (Kd.R_reads' HO_452003.out).2.1); rintro e w131 ⟨rfl, hb⟩; refine ⟨_, rfl, ?_⟩; replace HO_414003 := zr HO_414003 hb; replace HO_424003 := zr HO_424003 hb; replace HO_432003 := zr HO_432003 hb; replace HO_451003 := zr HO_451003 hb; replace HO_452003 := zr HO_452003 hb; replace HO_453003 := zr HO_453003 hb; replace BK413 := zb BK413 hb; replace BK423 := zb BK423 hb; replace BK431 := zb BK431 hb; replace BK450 := zb BK450 hb; replace BK451 := zb BK451 hb; replace BK452 := zb BK452 hb; replace HB := zh HB hb; (try clear hb); obtain ⟨hcz132_0, hcz132_1, hcz132_2, hcz132_3, hfz132_0, hfz132_1, hfz132_2, hfz132_3⟩ := ze4 BK451.out; have hnb133 := NB452_413.out; have hnc133 := NB413_452.out; have hnb134 := NB452_423.out; have hnc134 := NB423_452.out; have hnb135 := NB452_431.out; have hnc135 := NB431_452.out; obtain ⟨hcz136_0, hcz136_1, hcz136_2, hcz136_3, hfz136_0, hfz136_1, hfz136_2, hfz136_3⟩ := ze4 BK452.out) | (go_at_call 12; (with_reducible refine (impl_LessVer.calls kj111 t438 t439 t440 _ _ t441 t444 t445 t446 _ _ t447 true _ ?side1 ?side2 ?side3 ?side4 A117.out).mono ?_); (case side1 => repeat (first | exact (Kd.R_reads' HO_452003.out).2.2 | (with_reducible refine Kd.C_alloc ?_ _) | (with_reducible refine Kd.C_drewN ?_ _) | (with_reducible refine Kd.C_drew ?_))); (case side2 => exact (Kd.R_reads' HO_452003.out).2.1); (case side3 => repeat (first | exact (Kd.R_reads' HO_453003.out).2.2 | (with_reducible refine Kd.C_alloc ?_ _) | (with_reducible refine Kd.C_drewN ?_ _) | (with_reducible refine Kd.C_drew ?_))); (case side4 => exact (Kd.R_reads' HO_453003.out).2.1); rintro e w137 ⟨rfl, hb⟩; replace HO_414003 := zr HO_414003 hb; replace HO_424003 := zr HO_424003 hb; replace HO_432003 := zr HO_432003 hb; replace HO_451003 := zr HO_451003 hb; replace HO_452003 := zr HO_452003 hb; replace HO_453003 := zr HO_453003 hb; replace BK413 := zb BK413 hb; replace BK423 := zb BK423 hb; replace BK431 := zb BK431 hb; replace BK450 := zb BK450 hb; replace BK451 := zb BK451 hb; replace BK452 := zb BK452 hb; replace HB := zh HB hb; (try clear hb); obtain ⟨hcz138_0, hcz138_1, hcz138_2, hcz138_3, hfz138_0, hfz138_1, hfz138_2, hfz138_3⟩ := ze4 BK450.out; obtain ⟨hcz139_0, hcz139_1, hcz139_2, hcz139_3, hfz139_0, hfz139_1, hfz139_2, hfz139_3⟩ := ze4 BK452.out) | (go_at_call 12; (with_reducible refine (impl_LessVer.calls kj111 t432 t433 t434 _ _ t435 t444 t445 t446 _ _ t447 t463 _ ?side1 ?side2 ?side3 ?side4 A119.out).mono ?_); (case side1 => repeat (first | exact (Kd.R_reads' HO_451003.out).2.2 | (with_reducible refine Kd.C_alloc ?_ _) | (with_reducible refine Kd.C_drewN ?_ _) | (with_reducible refine Kd.C_drew ?_))); (case side2 => exact (Kd.R_reads' HO_451003.out).2.1); (case side3 => repeat (first | exact (Kd.R_reads' HO_453003.out).2.2 | (with_reducible refine Kd.C_alloc ?_ _) | (with_reducible refine Kd.C_drewN ?_ _) | (with_reducible refine Kd.C_drew ?_))); (case side4 => exact (Kd.R_reads' HO_453003.out).2.1); rintro e w140 ⟨rfl, hb⟩; replace HO_414003 := zr HO_414003 hb; replace HO_424003 := zr HO_424003 hb; replace HO_432003 := zr HO_432003 hb; replace HO_451003 := zr HO_451003 hb; replace HO_452003 := zr HO_452003 hb; replace HO_453003 := zr HO_453003 hb; replace BK413 := zb BK413 hb; replace BK423 := zb BK423 hb; replace BK431 := zb BK431 hb; replace BK450 := zb BK450 hb; replace BK451 := zb BK451 hb; replace BK452 := zb BK452 hb; replace HB := zh HB hb; (try clear hb)))
                go_meet
                case rel => exact ⟨_, (!t463), zS, (by first | exact H' | (subst_vars; exact H')), ⟨by have := HJ2.out; have := HJ11.out; have := HJ54.out; have := HJ69.out; have := HJ83.out; have := HJ111.out; first | omega | exact Nat.le_refl _⟩, ⟨zR HO_414003.out⟩, ⟨zR HO_424003.out⟩, ⟨zR HO_432003.out⟩, ⟨zR HO_451003.out⟩, ⟨zR HO_452003.out⟩, ⟨zR HO_453003.out⟩, ⟨zK BK413.out⟩, ⟨zK BK423.out⟩, ⟨zK BK431.out⟩, ⟨zK BK450.out⟩, ⟨zK BK451.out⟩, ⟨zK BK452.out⟩, ⟨zW HB.out⟩⟩
               ·replace c118 := Bool.eq_false_iff.mpr c118
                subst c118
                rw [if_neg zFT] at H
                have H' := Aside0.mk H
                clear H
                have hnb141 := NB450_413.out
                have hnc141 := NB413_450.out
                have hnb142 := NB450_423.out
                have hnc142 := NB423_450.out
                have hnb143 := NB450_431.out
                have hnc143 := NB431_450.out
                have hnb144 := NB450_451.out
                have hnc144 := NB451_450.out
                have hnb145 := NB450_452.out
                have hnc145 := NB452_450.out
                obtain ⟨hcz146_0, hcz146_1, hcz146_2, hcz146_3, hfz146_0, hfz146_1, hfz146_2, hfz146_3⟩ := ze4 BK450.out
                have hnb147 := NB451_413.out
                have hnc147 := NB413_451.out
                have hnb148 := NB451_423.out
                have hnc148 := NB423_451.out
                have hnb149 := NB451_431.out
                have hnc149 := NB431_451.out
                have hnb150 := NB451_452.out
                have hnc150 := NB452_451.out
                obtain ⟨hcz151_0, hcz151_1, hcz151_2, hcz151_3, hfz151_0, hfz151_1, hfz151_2, hfz151_3⟩ := ze4 BK451.out
                go_wp2_with (first | ((with_reducible refine zq 12 ?_); refine zg (some 80) Tryd.func12 #[.agg #[.int .i64 t432, .int .i64 t433, .int .i64 t434, .slice Ao40 t435.length co40], .agg #[.int .i64 t438, .int .i64 t439, .int .i64 t440, .slice Ao46 t441.length co46]] ?_; (with_reducible refine (impl_LessVer.calls kj111 t432 t433 t434 _ _ t435 t438 t439 t440 _ _ t441 true _ ?side1 ?side2 ?side3 ?side4 A115.out).mono ?_); (case side1 => repeat (first | exact (Kd.R_reads' HO_451003.out).2.2 | (with_reducible refine Kd.C_alloc ?_ _) | (with_reducible refine Kd.C_drewN ?_ _) | (with_reducible refine Kd.C_drew ?_))); (case side2 => exact (Kd.R_reads' HO_451003.out).2.1); (case side3 => repeat (first | exact (Kd.R_reads' HO_452003.out).2.2 | (with_reducible refine Kd.C_alloc ?_ _) | (with_reducible refine Kd.C_drewN ?_ _) | (with_reducible refine Kd.C_drew ?_))); (case side4 => exact (Kd.R_reads' HO_452003.out).2.1); rintro e w152 ⟨rfl, hb⟩; refine ⟨_, rfl, ?_⟩; replace HO_414003 := zr HO_414003 hb; replace HO_424003 := zr HO_424003 hb; replace HO_432003 := zr HO_432003 hb; replace HO_451003 := zr HO_451003 hb; replace HO_452003 := zr HO_452003 hb; replace HO_453003 := zr HO_453003 hb; replace BK413 := zb BK413 hb; replace BK423 := zb BK423 hb; replace BK431 := zb BK431 hb; replace BK450 := zb BK450 hb; replace BK451 := zb BK451 hb; replace BK452 := zb BK452 hb; replace HB := zh HB hb; (try clear hb); obtain ⟨hcz153_0, hcz153_1, hcz153_2, hcz153_3, hfz153_0, hfz153_1, hfz153_2, hfz153_3⟩ := ze4 BK451.out; have hnb154 := NB452_413.out; have hnc154 := NB413_452.out; have hnb155 := NB452_423.out; have hnc155 := NB423_452.out; have hnb156 := NB452_431.out; have hnc156 := NB431_452.out; obtain ⟨hcz157_0, hcz157_1, hcz157_2, hcz157_3, hfz157_0, hfz157_1, hfz157_2, hfz157_3⟩ := ze4 BK452.out) | (go_at_call 12; (with_reducible refine (impl_LessVer.calls kj111 t438 t439 t440 _ _ t441 t444 t445 t446 _ _ t447 false _ ?side1 ?side2 ?side3 ?side4 A117.out).mono ?_); (case side1 => repeat (first | exact (Kd.R_reads' HO_452003.out).2.2 | (with_reducible refine Kd.C_alloc ?_ _) | (with_reducible refine Kd.C_drewN ?_ _) | (with_reducible refine Kd.C_drew ?_))); (case side2 => exact (Kd.R_reads' HO_452003.out).2.1); (case side3 => repeat (first | exact (Kd.R_reads' HO_453003.out).2.2 | (with_reducible refine Kd.C_alloc ?_ _) | (with_reducible refine Kd.C_drewN ?_ _) | (with_reducible refine Kd.C_drew ?_))); (case side4 => exact (Kd.R_reads' HO_453003.out).2.1); rintro e w158 ⟨rfl, hb⟩; replace HO_414003 := zr HO_414003 hb; replace HO_424003 := zr HO_424003 hb; replace HO_432003 := zr HO_432003 hb; replace HO_451003 := zr HO_451003 hb; replace HO_452003 := zr HO_452003 hb; replace HO_453003 := zr HO_453003 hb; replace BK413 := zb BK413 hb; replace BK423 := zb BK423 hb; replace BK431 := zb BK431 hb; replace BK450 := zb BK450 hb; replace BK451 := zb BK451 hb; replace BK452 := zb BK452 hb; replace HB := zh HB hb; (try clear hb)))
                go_meet
                case rel => exact ⟨_, (false), zS, (by first | exact H' | (subst_vars; exact H')), ⟨by have := HJ2.out; have := HJ11.out; have := HJ54.out; have := HJ69.out; have := HJ83.out; have := HJ111.out; first | omega | exact Nat.le_refl _⟩, ⟨zR HO_414003.out⟩, ⟨zR HO_424003.out⟩, ⟨zR HO_432003.out⟩, ⟨zR HO_451003.out⟩, ⟨zR HO_452003.out⟩, ⟨zR HO_453003.out⟩, ⟨zK BK413.out⟩, ⟨zK BK423.out⟩, ⟨zK BK431.out⟩, ⟨zK BK450.out⟩, ⟨zK BK451.out⟩, ⟨zK BK452.out⟩, ⟨zW HB.out⟩⟩
              ·replace c116 := Bool.eq_false_iff.mpr c116
               subst c116
               rw [if_neg zFT] at H
               have H' := Aside0.mk H
               clear H
               have hnb159 := NB450_413.out
               have hnc159 := NB413_450.out
               have hnb160 := NB450_423.out
               have hnc160 := NB423_450.out
               have hnb161 := NB450_431.out
               have hnc161 := NB431_450.out
               have hnb162 := NB450_451.out
               have hnc162 := NB451_450.out
               have hnb163 := NB450_452.out
               have hnc163 := NB452_450.out
               obtain ⟨hcz164_0, hcz164_1, hcz164_2, hcz164_3, hfz164_0, hfz164_1, hfz164_2, hfz164_3⟩ := ze4 BK450.out
               have hnb165 := NB451_413.out
               have hnc165 := NB413_451.out
               have hnb166 := NB451_423.out
               have hnc166 := NB423_451.out
               have hnb167 := NB451_431.out
               have hnc167 := NB431_451.out
               have hnb168 := NB451_452.out
               have hnc168 := NB452_451.out
               obtain ⟨hcz169_0, hcz169_1, hcz169_2, hcz169_3, hfz169_0, hfz169_1, hfz169_2, hfz169_3⟩ := ze4 BK451.out
               go_wp2_with (first | ((with_reducible refine zq 12 ?_); refine zg (some 80) Tryd.func12 #[.agg #[.int .i64 t432, .int .i64 t433, .int .i64 t434, .slice Ao40 t435.length co40], .agg #[.int .i64 t438, .int .i64 t439, .int .i64 t440, .slice Ao46 t441.length co46]] ?_; (with_reducible refine (impl_LessVer.calls kj111 t432 t433 t434 _ _ t435 t438 t439 t440 _ _ t441 false _ ?side1 ?side2 ?side3 ?side4 A115.out).mono ?_); (case side1 => repeat (first | exact (Kd.R_reads' HO_451003.out).2.2 | (with_reducible refine Kd.C_alloc ?_ _) | (with_reducible refine Kd.C_drewN ?_ _) | (with_reducible refine Kd.C_drew ?_))); (case side2 => exact (Kd.R_reads' HO_451003.out).2.1); (case side3 => repeat (first | exact (Kd.R_reads' HO_452003.out).2.2 | (with_reducible refine Kd.C_alloc ?_ _) | (with_reducible refine Kd.C_drewN ?_ _) | (with_reducible refine Kd.C_drew ?_))); (case side4 => exact (Kd.R_reads' HO_452003.out).2.1); rintro e w170 ⟨rfl, hb⟩; refine ⟨_, rfl, ?_⟩; replace HO_414003 := zr HO_414003 hb; replace HO_424003 := zr HO_424003 hb; replace HO_432003 := zr HO_432003 hb; replace HO_451003 := zr HO_451003 hb; replace HO_452003 := zr HO_452003 hb; replace HO_453003 := zr HO_453003 hb; replace BK413 := zb BK413 hb; replace BK423 := zb BK423 hb; replace BK431 := zb BK431 hb; replace BK450 := zb BK450 hb; replace BK451 := zb BK451 hb; replace BK452 := zb BK452 hb; replace HB := zh HB hb; (try clear hb)))
               go_meet
               case rel => exact ⟨_, (false), zS, (by first | exact H' | (subst_vars; exact H')), ⟨by have := HJ2.out; have := HJ11.out; have := HJ54.out; have := HJ69.out; have := HJ83.out; have := HJ111.out; first | omega | exact Nat.le_refl _⟩, ⟨zR HO_414003.out⟩, ⟨zR HO_424003.out⟩, ⟨zR HO_432003.out⟩, ⟨zR HO_451003.out⟩, ⟨zR HO_452003.out⟩, ⟨zR HO_453003.out⟩, ⟨zK BK413.out⟩, ⟨zK BK423.out⟩, ⟨zK BK431.out⟩, ⟨zK BK450.out⟩, ⟨zK BK451.out⟩, ⟨zK BK452.out⟩, ⟨zW HB.out⟩⟩
             case rest =>
              clear HC114
              try clear c1
              try clear p2
              try clear c10
              try clear c11
              try clear c12
              try clear c13
              try clear c14
              try clear c15
              try clear c16
              try clear c105
              try clear c105b0
              try clear c105b1
              try clear c105b2
              try clear c113
              try clear c116
              try clear c118
              try clear c120
              try clear c121
              try clear c122
              try clear c123
              try clear c124
              try clear c126
              try clear c127
              try clear c128
              try clear c129
              try clear c133
              try clear c134
              try clear c135
              try clear c141
              try clear c142
              try clear c143
              try clear c144
              try clear c145
              try clear c147
              try clear c148
              try clear c149
              try clear c150
              try clear c154
              try clear c155
              try clear c156
              try clear c159
              try clear c160
              try clear c161
              try clear c162
              try clear c163
              try clear c165
              try clear c166
              try clear c167
              try clear c168
              try clear hcz125_0
              try clear hcz125_1
              try clear hcz125_2
              try clear hcz125_3
              try clear hcz130_0
              try clear hcz130_1
              try clear hcz130_2
              try clear hcz130_3
              try clear hcz132_0
              try clear hcz132_1
              try clear hcz132_2
              try clear hcz132_3
              try clear hcz136_0
              try clear hcz136_1
              try clear hcz136_2
              try clear hcz136_3
              try clear hcz138_0
              try clear hcz138_1
              try clear hcz138_2
              try clear hcz138_3
              try clear hcz139_0
              try clear hcz139_1
              try clear hcz139_2
              try clear hcz139_3
              try clear hcz146_0
              try clear hcz146_1
              try clear hcz146_2
              try clear hcz146_3
              try clear hcz151_0
              try clear hcz151_1
              try clear hcz151_2
              try clear hcz151_3
              try clear hcz153_0
              try clear hcz153_1
              try clear hcz153_2
              try clear hcz153_3
              try clear hcz157_0
              try clear hcz157_1
              try clear hcz157_2
              try clear hcz157_3
              try clear hcz164_0
              try clear hcz164_1
              try clear hcz164_2
              try clear hcz164_3
              try clear hcz169_0
              try clear hcz169_1
              try clear hcz169_2
              try clear hcz169_3
              try clear hfz125_0
              try clear hfz125_1
              try clear hfz125_2
              try clear hfz125_3
              try clear hfz130_0
              try clear hfz130_1
              try clear hfz130_2
              try clear hfz130_3
              try clear hfz132_0
              try clear hfz132_1
              try clear hfz132_2
              try clear hfz132_3
              try clear hfz136_0
              try clear hfz136_1
              try clear hfz136_2
              try clear hfz136_3
              try clear hfz138_0
              try clear hfz138_1
              try clear hfz138_2
              try clear hfz138_3
              try clear hfz139_0
              try clear hfz139_1
              try clear hfz139_2
              try clear hfz139_3
              try clear hfz146_0
              try clear hfz146_1
              try clear hfz146_2
              try clear hfz146_3
              try clear hfz151_0
              try clear hfz151_1
              try clear hfz151_2
              try clear hfz151_3
              try clear hfz153_0
              try clear hfz153_1
              try clear hfz153_2
              try clear hfz153_3
              try clear hfz157_0
              try clear hfz157_1
              try clear hfz157_2
              try clear hfz157_3
              try clear hfz164_0
              try clear hfz164_1
              try clear hfz164_2
              try clear hfz164_3
              try clear hfz169_0
              try clear hfz169_1
              try clear hfz169_2
              try clear hfz169_3
              try clear p2
              obtain ⟨kq, x91_113, rfl, HA, HJ113, HO_414003, HO_424003, HO_432003, HO_451003, HO_452003, HO_453003, BK413, BK423, BK431, BK450, BK451, BK452, HB⟩ := hcut
              cases kq with
              | zero => exact absurd HA.out (by simp [laws_FnVers.j6])
              | succ kj113 =>
               have H := HA.out
               clear HA
               simp only [laws_FnVers.j6] at H
               have HC171 := Aside0.mk H
               clear H
               go_upto_if 91 with (fail)
               go_cut [] (fun wc => ∃ (kq : Nat), Aside0 (laws_FnVers.j7 kq t414 t407 t408 t409 t410 = some r) ∧ Aside0 (kq ≤ kj113) ∧ Aside0 (Kd.R Kd.string 9 wc w.heap.size (fun k_ => some k_ ≠ ((.slice Ao23 t419.length co23) : Value).ownBlock ∧ some k_ ≠ ((.slice Ao29 t427.length co29) : Value).ownBlock ∧ some k_ ≠ ((.slice Ao40 t435.length co40) : Value).ownBlock ∧ some k_ ≠ ((.slice Ao46 t441.length co46) : Value).ownBlock ∧ some k_ ≠ ((.slice Ao51 t447.length co51) : Value).ownBlock) (.slice Ao16 t410.length co16) t410) ∧ Aside0 (Kd.R Kd.string 9 wc w.heap.size (fun k_ => some k_ ≠ ((.slice Ao16 t410.length co16) : Value).ownBlock ∧ some k_ ≠ ((.slice Ao29 t427.length co29) : Value).ownBlock ∧ some k_ ≠ ((.slice Ao40 t435.length co40) : Value).ownBlock ∧ some k_ ≠ ((.slice Ao46 t441.length co46) : Value).ownBlock ∧ some k_ ≠ ((.slice Ao51 t447.length co51) : Value).ownBlock) (.slice Ao23 t419.length co23) t419) ∧ Aside0 (Kd.R Kd.string 9 wc w.heap.size (fun k_ => some k_ ≠ ((.slice Ao16 t410.length co16) : Value).ownBlock ∧ some k_ ≠ ((.slice Ao23 t419.length co23) : Value).ownBlock ∧ some k_ ≠ ((.slice Ao40 t435.length co40) : Value).ownBlock ∧ some k_ ≠ ((.slice Ao46 t441.length co46) : Value).ownBlock ∧ some k_ ≠ ((.slice Ao51 t447.length co51) : Value).ownBlock) (.slice Ao29 t427.length co29) t427) ∧ Aside0 (Kd.R Kd.string 9 wc w.heap.size (fun k_ => some k_ ≠ ((.slice Ao16 t410.length co16) : Value).ownBlock ∧ some k_ ≠ ((.slice Ao23 t419.length co23) : Value).ownBlock ∧ some k_ ≠ ((.slice Ao29 t427.length co29) : Value).ownBlock ∧ some k_ ≠ ((.slice Ao46 t441.length co46) : Value).ownBlock ∧ some k_ ≠ ((.slice Ao51 t447.length co51) : Value).ownBlock) (.slice Ao40 t435.length co40) t435) ∧ Aside0 (Kd.R Kd.string 9 wc w.heap.size (fun k_ => some k_ ≠ ((.slice Ao16 t410.length co16) : Value).ownBlock ∧ some k_ ≠ ((.slice Ao23 t419.length co23) : Value).ownBlock ∧ some k_ ≠ ((.slice Ao29 t427.length co29) : Value).ownBlock ∧ some k_ ≠ ((.slice Ao40 t435.length co40) : Value).ownBlock ∧ some k_ ≠ ((.slice Ao51 t447.length co51) : Value).ownBlock) (.slice Ao46 t441.length co46) t441) ∧ Aside0 (Kd.R Kd.string 9 wc w.heap.size (fun k_ => some k_ ≠ ((.slice Ao16 t410.length co16) : Value).ownBlock ∧ some k_ ≠ ((.slice Ao23 t419.length co23) : Value).ownBlock ∧ some k_ ≠ ((.slice Ao29 t427.length co29) : Value).ownBlock ∧ some k_ ≠ ((.slice Ao40 t435.length co40) : Value).ownBlock ∧ some k_ ≠ ((.slice Ao46 t441.length co46) : Value).ownBlock) (.slice Ao51 t447.length co51) t447) ∧ Aside0 (wc.heap[gb413]? = some (.cells #[.int .i64 t407, .int .i64 t408, .int .i64 t409, (.slice Ao16 t410.length co16)] 26 (0, 0))) ∧ Aside0 (wc.heap[gb423]? = some (.cells #[.int .i64 t416, .int .i64 t417, .int .i64 t418, (.slice Ao23 t419.length co23)] 26 (0, 0))) ∧ Aside0 (wc.heap[gb431]? = some (.cells #[.int .i64 t424, .int .i64 t425, .int .i64 t426, (.slice Ao29 t427.length co29)] 26 (0, 0))) ∧ Aside0 (wc.heap[gb450]? = some (.cells #[.int .i64 t432, .int .i64 t433, .int .i64 t434, (.slice Ao40 t435.length co40)] 26 (0, 0))) ∧ Aside0 (wc.heap[gb451]? = some (.cells #[.int .i64 t438, .int .i64 t439, .int .i64 t440, (.slice Ao46 t441.length co46)] 26 (0, 0))) ∧ Aside0 (wc.heap[gb452]? = some (.cells #[.int .i64 t444, .int .i64 t445, .int .i64 t446, (.slice Ao51 t447.length co51)] 26 (0, 0))) ∧ Aside0 (Below w.heap.size w wc))
               case first =>
                have H := HC171.out
                clear HC171
                by_cases c172 : x91_113 = true
                ·subst c172
                 rw [if_pos rfl] at H
                 exact absurd H (by simp)
                ·replace c172 := Bool.eq_false_iff.mpr c172
                 subst c172
                 rw [if_neg zFT] at H
                 have H' := Aside0.mk H
                 clear H
                 go_wp2
                 go_meet
                 case rel => exact ⟨_, (by first | exact H' | (subst_vars; exact H')), ⟨by have := HJ2.out; have := HJ11.out; have := HJ54.out; have := HJ69.out; have := HJ83.out; have := HJ111.out; have := HJ113.out; first | omega | exact Nat.le_refl _⟩, ⟨zR HO_414003.out⟩, ⟨zR HO_424003.out⟩, ⟨zR HO_432003.out⟩, ⟨zR HO_451003.out⟩, ⟨zR HO_452003.out⟩, ⟨zR HO_453003.out⟩, ⟨zK BK413.out⟩, ⟨zK BK423.out⟩, ⟨zK BK431.out⟩, ⟨zK BK450.out⟩, ⟨zK BK451.out⟩, ⟨zK BK452.out⟩, ⟨zW HB.out⟩⟩
               case rest =>
                clear HC171
                try clear c1
                try clear p2
                try clear c10
                try clear c11
                try clear c12
                try clear c13
                try clear c14
                try clear c15
                try clear c16
                try clear c17
                try clear c105
                try clear c105b0
                try clear c105b1
                try clear c105b2
                try clear c113
                try clear c116
                try clear c118
                try clear c120
                try clear c121
                try clear c122
                try clear c123
                try clear c124
                try clear c126
                try clear c127
                try clear c128
                try clear c129
                try clear c133
                try clear c134
                try clear c135
                try clear c141
                try clear c142
                try clear c143
                try clear c144
                try clear c145
                try clear c147
                try clear c148
                try clear c149
                try clear c150
                try clear c154
                try clear c155
                try clear c156
                try clear c159
                try clear c160
                try clear c161
                try clear c162
                try clear c163
                try clear c165
                try clear c166
                try clear c167
                try clear c168
                try clear c172
                try clear hcz125_0
                try clear hcz125_1
                try clear hcz125_2
                try clear hcz125_3
                try clear hcz130_0
                try clear hcz130_1
                try clear hcz130_2
                try clear hcz130_3
                try clear hcz132_0
                try clear hcz132_1
                try clear hcz132_2
                try clear hcz132_3
                try clear hcz136_0
                try clear hcz136_1
                try clear hcz136_2
                try clear hcz136_3
                try clear hcz138_0
                try clear hcz138_1
                try clear hcz138_2
                try clear hcz138_3
                try clear hcz139_0
                try clear hcz139_1
                try clear hcz139_2
                try clear hcz139_3
                try clear hcz146_0
                try clear hcz146_1
                try clear hcz146_2
                try clear hcz146_3
                try clear hcz151_0
                try clear hcz151_1
                try clear hcz151_2
                try clear hcz151_3
                try clear hcz153_0
                try clear hcz153_1
                try clear hcz153_2
                try clear hcz153_3
                try clear hcz157_0
                try clear hcz157_1
                try clear hcz157_2
                try clear hcz157_3
                try clear hcz164_0
                try clear hcz164_1
                try clear hcz164_2
                try clear hcz164_3
                try clear hcz169_0
                try clear hcz169_1
                try clear hcz169_2
                try clear hcz169_3
                try clear hfz125_0
                try clear hfz125_1
                try clear hfz125_2
                try clear hfz125_3
                try clear hfz130_0
                try clear hfz130_1
                try clear hfz130_2
                try clear hfz130_3
                try clear hfz132_0
                try clear hfz132_1
                try clear hfz132_2
                try clear hfz132_3
                try clear hfz136_0
                try clear hfz136_1
                try clear hfz136_2
                try clear hfz136_3
                try clear hfz138_0
                try clear hfz138_1
                try clear hfz138_2
                try clear hfz138_3
                try clear hfz139_0
                try clear hfz139_1
                try clear hfz139_2
                try clear hfz139_3
                try clear hfz146_0
                try clear hfz146_1
                try clear hfz146_2
                try clear hfz146_3
                try clear hfz151_0
                try clear hfz151_1
                try clear hfz151_2
                try clear hfz151_3
                try clear hfz153_0
                try clear hfz153_1
                try clear hfz153_2
                try clear hfz153_3
                try clear hfz157_0
                try clear hfz157_1
                try clear hfz157_2
                try clear hfz157_3
                try clear hfz164_0
                try clear hfz164_1
                try clear hfz164_2
                try clear hfz164_3
                try clear hfz169_0
                try clear hfz169_1
                try clear hfz169_2
                try clear hfz169_3
                try clear p2
                obtain ⟨kq, HA, HJ170, HO_414003, HO_424003, HO_432003, HO_451003, HO_452003, HO_453003, BK413, BK423, BK431, BK450, BK451, BK452, HB⟩ := hcut
                cases kq with
                | zero => exact absurd HA.out (by simp [laws_FnVers.j7])
                | succ kj170 =>
                 have H := HA.out
                 clear HA
                 simp only [laws_FnVers.j7] at H
                 replace H := Option.bind_eq_some_iff.mp H
                 obtain ⟨t464, A1730, H⟩ := H
                 try dsimp only at H
                 have A173 := Aside0.mk A1730
                 clear A1730
                 by_cases c174 : t464 = true
                 ·subst c174
                  rw [if_pos rfl] at H
                  replace H := Option.bind_eq_some_iff.mp H
                  obtain ⟨⟨t465, t466, t467, t468, t471⟩, A1750, H⟩ := H
                  try dsimp only at H
                  have A175 := Aside0.mk A1750
                  clear A1750
                  by_cases c176 : t471 = true
                  ·subst c176
                   rw [if_pos rfl] at H
                   replace H := Option.bind_eq_some_iff.mp H
                   obtain ⟨t473, A1770, H⟩ := H
                   try dsimp only at H
                   have A177 := Aside0.mk A1770
                   clear A1770
                   obtain rfl := Option.some.inj H
                   have hnb178 := NB413_423.out
                   have hnc178 := NB423_413.out
                   have hnb179 := NB413_431.out
                   have hnc179 := NB431_413.out
                   have hnb180 := NB413_450.out
                   have hnc180 := NB450_413.out
                   have hnb181 := NB413_451.out
                   have hnc181 := NB451_413.out
                   have hnb182 := NB413_452.out
                   have hnc182 := NB452_413.out
                   obtain ⟨hcz183_0, hcz183_1, hcz183_2, hcz183_3, hfz183_0, hfz183_1, hfz183_2, hfz183_3⟩ := ze4 BK413.out
                   go_wp2_with (first | ((with_reducible refine zq 14 ?_); refine zg (some 93) Tryd.func14 #[.agg #[.int .i64 t407, .int .i64 t408, .int .i64 t409, .slice Ao16 t410.length co16]] ?_; (with_reducible refine (impl_VerOk.calls kj170 t407 t408 t409 _ _ t410 true _ ?side1 ?side2 A173.out).mono ?_); (case side1 => repeat (first | exact (Kd.R_reads' HO_414003.out).2.2 | (with_reducible refine Kd.C_alloc ?_ _) | (with_reducible refine Kd.C_drewN ?_ _) | (with_reducible refine Kd.C_drew ?_))); (case side2 => exact (Kd.R_reads' HO_414003.out).2.1); rintro e w184 ⟨rfl, hb⟩; refine ⟨_, rfl, ?_⟩; replace HO_414003 := zr HO_414003 hb; replace HO_424003 := zr HO_424003 hb; replace HO_432003 := zr HO_432003 hb; replace HO_451003 := zr HO_451003 hb; replace HO_452003 := zr HO_452003 hb; replace HO_453003 := zr HO_453003 hb; replace BK413 := zb BK413 hb; replace BK423 := zb BK423 hb; replace BK431 := zb BK431 hb; replace BK450 := zb BK450 hb; replace BK451 := zb BK451 hb; replace BK452 := zb BK452 hb; replace HB := zh HB hb; (try clear hb)) | ((with_reducible refine zq 9 ?_); refine zg (some 99) Tryd.func9 #[.string t414] ?_; (with_reducible refine (impl_ParseVer.calls kj170 t414 t465 t466 t467 t468 true _ ?side1 A175.out).mono ?_); (case side1 => exact GW.below HG.out (zW HB.out)); rintro e w185 ⟨v469, rfl, ho0, hb⟩; refine ⟨_, rfl, ?_⟩; have HO470 := zA (Kd.R_lower (Kd.R_new' (Kd.R_new' (Kd.R_new' (Kd.R_new' (Kd.R_new' (Kd.R_new' ho0 (Kd.R_lt (zR HO_414003.out))) (Kd.R_lt (zR HO_424003.out))) (Kd.R_lt (zR HO_432003.out))) (Kd.R_lt (zR HO_451003.out))) (Kd.R_lt (zR HO_452003.out))) (Kd.R_lt (zR HO_453003.out))) (below_size (zW HB.out))); replace HO_414003 := zA (Kd.R_elder' (zR HO_414003.out) (Kd.R_base ho0) hb); replace HO_424003 := zA (Kd.R_elder' (zR HO_424003.out) (Kd.R_base ho0) hb); replace HO_432003 := zA (Kd.R_elder' (zR HO_432003.out) (Kd.R_base ho0) hb); replace HO_451003 := zA (Kd.R_elder' (zR HO_451003.out) (Kd.R_base ho0) hb); replace HO_452003 := zA (Kd.R_elder' (zR HO_452003.out) (Kd.R_base ho0) hb); replace HO_453003 := zA (Kd.R_elder' (zR HO_453003.out) (Kd.R_base ho0) hb); replace BK413 := zb BK413 hb; replace BK423 := zb BK423 hb; replace BK431 := zb BK431 hb; replace BK450 := zb BK450 hb; replace BK451 := zb BK451 hb; replace BK452 := zb BK452 hb; replace HB := zh HB hb; (try clear hb ho0)) | ((with_reducible refine zd 14 ?_); refine ze 14 26 #[.int .i64 0, .int .i64 0, .int .i64 0, .slice none 0 0] ?_; intro gb472 hg w186 hbox hb; replace HO_414003 := zr HO_414003 hb; replace HO_424003 := zr HO_424003 hb; replace HO_432003 := zr HO_432003 hb; replace HO_451003 := zr HO_451003 hb; replace HO_452003 := zr HO_452003 hb; replace HO_453003 := zr HO_453003 hb; replace HO470 := zr HO470 hb; have BK472 := zA (hbox); have GW472 := zi HB hg; have GE472 := zi HB hg; replace HB := zh HB hb; have NB413_472 := zA (zL hg (zK BK413.out)); have NB472_413 := zA (zJ hg (zK BK413.out)); replace BK413 := zb BK413 hb; have NB423_472 := zA (zL hg (zK BK423.out)); have NB472_423 := zA (zJ hg (zK BK423.out)); replace BK423 := zb BK423 hb; have NB431_472 := zA (zL hg (zK BK431.out)); have NB472_431 := zA (zJ hg (zK BK431.out)); replace BK431 := zb BK431 hb; have NB450_472 := zA (zL hg (zK BK450.out)); have NB472_450 := zA (zJ hg (zK BK450.out)); replace BK450 := zb BK450 hb; have NB451_472 := zA (zL hg (zK BK451.out)); have NB472_451 := zA (zJ hg (zK BK451.out)); replace BK451 := zb BK451 hb; have NB452_472 := zA (zL hg (zK BK452.out)); have NB472_452 := zA (zJ hg (zK BK452.out)); replace BK452 := zb BK452 hb; clear hb hbox hg; have hnb187 := NB472_413.out; have hnc187 := NB413_472.out; have hnb188 := NB472_423.out; have hnc188 := NB423_472.out; have hnb189 := NB472_431.out; have hnc189 := NB431_472.out; have hnb190 := NB472_450.out; have hnc190 := NB450_472.out; have hnb191 := NB472_451.out; have hnc191 := NB451_472.out; have hnb192 := NB472_452.out; have hnc192 := NB452_472.out; obtain ⟨hcz193_0, hcz193_1, hcz193_2, hcz193_3, hfz193_0, hfz193_1, hfz193_2, hfz193_3⟩ := ze4 BK472.out; obtain ⟨Ao194, co194, eo194⟩ := Kd.R_slice HO470.out; subst eo194; obtain ⟨hcz195_0, hcz195_1, hcz195_2, hcz195_3, hfz195_0, hfz195_1, hfz195_2, hfz195_3⟩ := ze4 BK413.out) | (go_at_call 16; (with_reducible refine (laws_sameVer.calls kj170 t465 t466 t467 _ _ t468 t407 t408 t409 _ _ t410 t473 _ ?side1 ?side2 ?side3 ?side4 A177.out).mono ?_); (case side1 => refine (Kd.R_reads' (e := 9) (base := w.heap.size) (ok := fun k_ => ((((((True ∧ some k_ ≠ (.slice Ao16 t410.length co16 : Value).ownBlock) ∧ some k_ ≠ (.slice Ao23 t419.length co23 : Value).ownBlock) ∧ some k_ ≠ (.slice Ao29 t427.length co29 : Value).ownBlock) ∧ some k_ ≠ (.slice Ao40 t435.length co40 : Value).ownBlock) ∧ some k_ ≠ (.slice Ao46 t441.length co46 : Value).ownBlock) ∧ some k_ ≠ (.slice Ao51 t447.length co51 : Value).ownBlock)) (n := t468.length) (c := co194) ?_).2.2; exact (zR (Kd.R_mono (Kd.R_far (p := ⟨gb472, 3, none⟩) (Kd.R_far (p := ⟨gb472, 2, none⟩) (Kd.R_far (p := ⟨gb472, 1, none⟩) (Kd.R_far (p := ⟨gb472, 0, none⟩) (Kd.R_types HO470.out BK472.out (by decide)) (fun _ hk => hk.2) (.int .i64 t465)) (fun _ hk => hk.2) (.int .i64 t466)) (fun _ hk => hk.2) (.int .i64 t467)) (fun _ hk => hk.2) (.slice Ao194 t468.length co194)) (fun _ h_ => h_.1)))); (case side2 => exact (Kd.R_reads' HO470.out).2.1); (case side3 => refine (Kd.R_reads' (e := 9) (base := w.heap.size) (ok := fun k_ => ((some k_ ≠ (.slice Ao23 t419.length co23 : Value).ownBlock ∧ (some k_ ≠ (.slice Ao29 t427.length co29 : Value).ownBlock ∧ (some k_ ≠ (.slice Ao40 t435.length co40 : Value).ownBlock ∧ (some k_ ≠ (.slice Ao46 t441.length co46 : Value).ownBlock ∧ some k_ ≠ (.slice Ao51 t447.length co51 : Value).ownBlock)))) ∧ some k_ ≠ (.slice Ao194 t468.length co194 : Value).ownBlock)) (n := t410.length) (c := co16) ?_).2.2; exact (zR (Kd.R_mono (Kd.R_far (p := ⟨gb472, 3, none⟩) (Kd.R_far (p := ⟨gb472, 2, none⟩) (Kd.R_far (p := ⟨gb472, 1, none⟩) (Kd.R_far (p := ⟨gb472, 0, none⟩) (Kd.R_types HO_414003.out BK472.out (by decide)) (fun _ hk => hk.2) (.int .i64 t465)) (fun _ hk => hk.2) (.int .i64 t466)) (fun _ hk => hk.2) (.int .i64 t467)) (fun _ hk => hk.2) (.slice Ao194 t468.length co194)) (fun _ h_ => h_.1)))); (case side4 => exact (Kd.R_reads' HO_414003.out).2.1); rintro e w196 ⟨rfl, hb⟩; replace HO_414003 := zA (Kd.R_below (zR (Kd.R_mono (Kd.R_far (p := ⟨gb472, 3, none⟩) (Kd.R_far (p := ⟨gb472, 2, none⟩) (Kd.R_far (p := ⟨gb472, 1, none⟩) (Kd.R_far (p := ⟨gb472, 0, none⟩) (Kd.R_types HO_414003.out BK472.out (by decide)) (fun _ hk => hk.2) (.int .i64 t465)) (fun _ hk => hk.2) (.int .i64 t466)) (fun _ hk => hk.2) (.int .i64 t467)) (fun _ hk => hk.2) (.slice Ao194 t468.length co194)) (fun _ h_ => h_.1))) hb); replace HO_424003 := zA (Kd.R_below (zR (Kd.R_mono (Kd.R_far (p := ⟨gb472, 3, none⟩) (Kd.R_far (p := ⟨gb472, 2, none⟩) (Kd.R_far (p := ⟨gb472, 1, none⟩) (Kd.R_far (p := ⟨gb472, 0, none⟩) (Kd.R_types HO_424003.out BK472.out (by decide)) (fun _ hk => hk.2) (.int .i64 t465)) (fun _ hk => hk.2) (.int .i64 t466)) (fun _ hk => hk.2) (.int .i64 t467)) (fun _ hk => hk.2) (.slice Ao194 t468.length co194)) (fun _ h_ => h_.1))) hb); replace HO_432003 := zA (Kd.R_below (zR (Kd.R_mono (Kd.R_far (p := ⟨gb472, 3, none⟩) (Kd.R_far (p := ⟨gb472, 2, none⟩) (Kd.R_far (p := ⟨gb472, 1, none⟩) (Kd.R_far (p := ⟨gb472, 0, none⟩) (Kd.R_types HO_432003.out BK472.out (by decide)) (fun _ hk => hk.2) (.int .i64 t465)) (fun _ hk => hk.2) (.int .i64 t466)) (fun _ hk => hk.2) (.int .i64 t467)) (fun _ hk => hk.2) (.slice Ao194 t468.length co194)) (fun _ h_ => h_.1))) hb); replace HO_451003 := zA (Kd.R_below (zR (Kd.R_mono (Kd.R_far (p := ⟨gb472, 3, none⟩) (Kd.R_far (p := ⟨gb472, 2, none⟩) (Kd.R_far (p := ⟨gb472, 1, none⟩) (Kd.R_far (p := ⟨gb472, 0, none⟩) (Kd.R_types HO_451003.out BK472.out (by decide)) (fun _ hk => hk.2) (.int .i64 t465)) (fun _ hk => hk.2) (.int .i64 t466)) (fun _ hk => hk.2) (.int .i64 t467)) (fun _ hk => hk.2) (.slice Ao194 t468.length co194)) (fun _ h_ => h_.1))) hb); replace HO_452003 := zA (Kd.R_below (zR (Kd.R_mono (Kd.R_far (p := ⟨gb472, 3, none⟩) (Kd.R_far (p := ⟨gb472, 2, none⟩) (Kd.R_far (p := ⟨gb472, 1, none⟩) (Kd.R_far (p := ⟨gb472, 0, none⟩) (Kd.R_types HO_452003.out BK472.out (by decide)) (fun _ hk => hk.2) (.int .i64 t465)) (fun _ hk => hk.2) (.int .i64 t466)) (fun _ hk => hk.2) (.int .i64 t467)) (fun _ hk => hk.2) (.slice Ao194 t468.length co194)) (fun _ h_ => h_.1))) hb); replace HO_453003 := zA (Kd.R_below (zR (Kd.R_mono (Kd.R_far (p := ⟨gb472, 3, none⟩) (Kd.R_far (p := ⟨gb472, 2, none⟩) (Kd.R_far (p := ⟨gb472, 1, none⟩) (Kd.R_far (p := ⟨gb472, 0, none⟩) (Kd.R_types HO_453003.out BK472.out (by decide)) (fun _ hk => hk.2) (.int .i64 t465)) (fun _ hk => hk.2) (.int .i64 t466)) (fun _ hk => hk.2) (.int .i64 t467)) (fun _ hk => hk.2) (.slice Ao194 t468.length co194)) (fun _ h_ => h_.1))) hb); replace HO470 := zA (Kd.R_below (zR (Kd.R_mono (Kd.R_far (p := ⟨gb472, 3, none⟩) (Kd.R_far (p := ⟨gb472, 2, none⟩) (Kd.R_far (p := ⟨gb472, 1, none⟩) (Kd.R_far (p := ⟨gb472, 0, none⟩) (Kd.R_types HO470.out BK472.out (by decide)) (fun _ hk => hk.2) (.int .i64 t465)) (fun _ hk => hk.2) (.int .i64 t466)) (fun _ hk => hk.2) (.int .i64 t467)) (fun _ hk => hk.2) (.slice Ao194 t468.length co194)) (fun _ h_ => h_.1))) hb); replace BK413 := zb BK413 hb; replace BK423 := zb BK423 hb; replace BK431 := zb BK431 hb; replace BK450 := zb BK450 hb; replace BK451 := zb BK451 hb; replace BK452 := zb BK452 hb; replace BK472 := zA (blk_below (g := gb472) (o := .cells #[.int .i64 t465, .int .i64 t466, .int .i64 t467, .slice Ao194 t468.length co194] 26 (0, 0)) (by (with_reducible repeat (first | refine blk_drewN ?_ _ | refine blk_drew ?_ | refine blk_alloc ?_ _)); refine blk_put (cs := #[.int .i64 t465, .int .i64 t466, .int .i64 t467, .slice none 0 0]) ?_ 3 _ rfl; (with_reducible repeat (first | refine blk_drewN ?_ _ | refine blk_drew ?_ | refine blk_alloc ?_ _)); refine blk_put (cs := #[.int .i64 t465, .int .i64 t466, .int .i64 0, .slice none 0 0]) ?_ 2 _ rfl; (with_reducible repeat (first | refine blk_drewN ?_ _ | refine blk_drew ?_ | refine blk_alloc ?_ _)); refine blk_put (cs := #[.int .i64 t465, .int .i64 0, .int .i64 0, .slice none 0 0]) ?_ 1 _ rfl; (with_reducible repeat (first | refine blk_drewN ?_ _ | refine blk_drew ?_ | refine blk_alloc ?_ _)); refine blk_put (cs := #[.int .i64 0, .int .i64 0, .int .i64 0, .slice none 0 0]) ?_ 0 _ rfl; (with_reducible repeat (first | refine blk_drewN ?_ _ | refine blk_drew ?_ | refine blk_alloc ?_ _)); exact BK472.out) hb); replace HB := zh HB hb; (try clear hb)))
                   go_ret
                   exact ⟨zE, zW HB.out⟩
                  ·replace c176 := Bool.eq_false_iff.mpr c176
                   subst c176
                   rw [if_neg zFT] at H
                   exact absurd H (by simp)
                 ·replace c174 := Bool.eq_false_iff.mpr c174
                  subst c174
                  rw [if_neg zFT] at H
                  obtain rfl := Option.some.inj H
                  have hnb197 := NB413_423.out
                  have hnc197 := NB423_413.out
                  have hnb198 := NB413_431.out
                  have hnc198 := NB431_413.out
                  have hnb199 := NB413_450.out
                  have hnc199 := NB450_413.out
                  have hnb200 := NB413_451.out
                  have hnc200 := NB451_413.out
                  have hnb201 := NB413_452.out
                  have hnc201 := NB452_413.out
                  obtain ⟨hcz202_0, hcz202_1, hcz202_2, hcz202_3, hfz202_0, hfz202_1, hfz202_2, hfz202_3⟩ := ze4 BK413.out
                  go_wp2_with (first | ((with_reducible refine zq 14 ?_); refine zg (some 93) Tryd.func14 #[.agg #[.int .i64 t407, .int .i64 t408, .int .i64 t409, .slice Ao16 t410.length co16]] ?_; (with_reducible refine (impl_VerOk.calls kj170 t407 t408 t409 _ _ t410 false _ ?side1 ?side2 A173.out).mono ?_); (case side1 => repeat (first | exact (Kd.R_reads' HO_414003.out).2.2 | (with_reducible refine Kd.C_alloc ?_ _) | (with_reducible refine Kd.C_drewN ?_ _) | (with_reducible refine Kd.C_drew ?_))); (case side2 => exact (Kd.R_reads' HO_414003.out).2.1); rintro e w203 ⟨rfl, hb⟩; refine ⟨_, rfl, ?_⟩; replace HO_414003 := zr HO_414003 hb; replace HO_424003 := zr HO_424003 hb; replace HO_432003 := zr HO_432003 hb; replace HO_451003 := zr HO_451003 hb; replace HO_452003 := zr HO_452003 hb; replace HO_453003 := zr HO_453003 hb; replace BK413 := zb BK413 hb; replace BK423 := zb BK423 hb; replace BK431 := zb BK431 hb; replace BK450 := zb BK450 hb; replace BK451 := zb BK451 hb; replace BK452 := zb BK452 hb; replace HB := zh HB hb; (try clear hb)))
                  go_ret
                  exact ⟨zE, zW HB.out⟩
end Go.Proofs.YtbjgmbhkofgjaaaDoor.PGB
