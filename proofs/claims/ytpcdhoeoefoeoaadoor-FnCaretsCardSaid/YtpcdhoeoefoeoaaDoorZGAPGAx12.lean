/- The walks of the functions that these laws reach, and what each comes to: printed by this session's program. -/
import Derived.Test.YtpcdhoeoefoeoaaDoorZGAPGAx0
import Derived.Test.YtpcdhoeoefoeoaaDoorZGAPGAx1
import Derived.Test.YtpcdhoeoefoeoaaDoorZGAPGAx3
import Derived.Test.YtpcdhoeoefoeoaaDoorZGAPGAx4
import Derived.Test.YtpcdhoeoefoeoaaDoorZGAPGAx9
import Derived.Test.YtpcdhoeoefoeoaaDoorZGAPGAx11
import Derived.Test.YtpcdhoeoefoeoaaDoorZGASays
import Derived.Test.YtpcdhoeoefoeoaaDoorZGARegs
namespace Go.Proofs.YtpcdhoeoefoeoaaDoor.PGA
open Go.RowKit Go.Proofs.YtpcdhoeoefoeoaaDoorW.PrintWords Go.Proofs.YtpcdhoeoefoeoaaDoorW.PrintLast Go.Proofs.YtpcdhoeoefoeoaaDoorW.PrintMore
attribute [local go_sem high] Go.Proofs.YtpcdhoeoefoeoaaDoor.Mine.str_gtr Go.Proofs.YtpcdhoeoefoeoaaDoor.Mine.str_leq Go.Proofs.YtpcdhoeoefoeoaaDoor.Mine.str_geq
attribute [local go_sem] max2_int min2_int max_two min_two max_three min_three max_four min_four   -- for this text's walks alone
set_option linter.unusedVariables false
set_option maxHeartbeats 8000000
set_option maxRecDepth 100000
set_option linter.unusedSimpArgs false
/-! ### laws_FnCarets: function 3 -/
mutual
def laws_FnCarets.j0 : Nat → List Int → Option (Bool)
 | 0, _ => none
 | k + 1, x0 => (spec_DrawVers.f k x0).bind fun bt393 => ((some (([] : List ByteArray) : List ByteArray)).bind fun y414 => ((some (([] : List ByteArray) : List ByteArray)).bind fun y417 => ((impl_VerText.f k bt393.1 bt393.2.1 bt393.2.2.1 y414).bind fun t420 => (if 1 + t420.size ≤ 9223372036854775807 then ((impl_ParseRange.f k ((⟨#[94]⟩ : ByteArray) ++ t420)).bind fun bt421 => ((impl_VerText.f k bt393.1 bt393.2.1 bt393.2.2.1 y414).bind fun t425 => (if 1 + t425.size ≤ 9223372036854775807 then ((impl_ParseRange.f k ((⟨#[126]⟩ : ByteArray) ++ t425)).bind fun bt426 => ((impl_ParseRange.f k (⟨#[42]⟩ : ByteArray)).bind fun bt430 => (if bt393.1 = 0 then (if bt393.1 = bt393.2.2.2.2.1 then (if bt393.2.1 = bt393.2.2.2.2.2.1 then (if bt393.2.1 = 0 then (laws_FnCarets.j1 k bt421.1 bt421.2 bt426.1 bt426.2 bt430.1 bt430.2 (bt393.2.2.1 == bt393.2.2.2.2.2.2.1) bt393.1 bt393.2.1 bt393.2.2.1 y414 bt393.2.2.2.2.1 bt393.2.2.2.2.2.1 bt393.2.2.2.2.2.2.1 y417) else (laws_FnCarets.j1 k bt421.1 bt421.2 bt426.1 bt426.2 bt430.1 bt430.2 true bt393.1 bt393.2.1 bt393.2.2.1 y414 bt393.2.2.2.2.1 bt393.2.2.2.2.2.1 bt393.2.2.2.2.2.2.1 y417)) else (laws_FnCarets.j1 k bt421.1 bt421.2 bt426.1 bt426.2 bt430.1 bt430.2 false bt393.1 bt393.2.1 bt393.2.2.1 y414 bt393.2.2.2.2.1 bt393.2.2.2.2.2.1 bt393.2.2.2.2.2.2.1 y417)) else (laws_FnCarets.j1 k bt421.1 bt421.2 bt426.1 bt426.2 bt430.1 bt430.2 false bt393.1 bt393.2.1 bt393.2.2.1 y414 bt393.2.2.2.2.1 bt393.2.2.2.2.2.1 bt393.2.2.2.2.2.2.1 y417)) else (laws_FnCarets.j1 k bt421.1 bt421.2 bt426.1 bt426.2 bt430.1 bt430.2 (bt393.1 == bt393.2.2.2.2.1) bt393.1 bt393.2.1 bt393.2.2.1 y414 bt393.2.2.2.2.1 bt393.2.2.2.2.2.1 bt393.2.2.2.2.2.2.1 y417)))) else (none)))) else (none)))))
def laws_FnCarets.j1 : Nat → List (List (S57)) → Bool → List (List (S57)) → Bool → List (List (S57)) → Bool → Bool → Int → Int → Int → List ByteArray → Int → Int → Int → List ByteArray → Option (Bool)
 | 0, _, _, _, _, _, _, _, _, _, _, _, _, _, _, _ => none
 | k + 1, x6, x7, x8, x9, x10, x11, x12, x412000, x412001, x412002, x412003, x413000, x413001, x413002, x413003 => if x7 = true then (if x9 = true then (if x11 = true then ((impl_InRange.f k x10 x413000 x413001 x413002 x413003).bind fun t434 => (if t434 = true then ((impl_InRange.f k x6 x412000 x412001 x412002 x412003).bind fun t435 => (if t435 = true then ((impl_InRange.f k x8 x412000 x412001 x412002 x412003).bind fun t436 => (if t436 = true then ((impl_InRange.f k x6 x413000 x413001 x413002 x413003).bind fun t437 => (if x12 = true then ((impl_LessVer.f k x413000 x413001 x413002 x413003 x412000 x412001 x412002 x412003).bind fun t438 => (if (t437 == (!t438)) = true then ((impl_InRange.f k x8 x413000 x413001 x413002 x413003).bind fun t439 => (if x412000 = x413000 then (if x412001 = x413001 then ((impl_LessVer.f k x413000 x413001 x413002 x413003 x412000 x412001 x412002 x412003).bind fun t440 => (some (t439 == (!t440)))) else (some (t439 == false))) else (some (t439 == false)))) else (none))) else (if (t437 == false) = true then ((impl_InRange.f k x8 x413000 x413001 x413002 x413003).bind fun t441 => (if x412000 = x413000 then (if x412001 = x413001 then ((impl_LessVer.f k x413000 x413001 x413002 x413003 x412000 x412001 x412002 x412003).bind fun t442 => (some (t441 == (!t442)))) else (some (t441 == false))) else (some (t441 == false)))) else (none)))) else (none))) else (none))) else (none))) else (none)) else (none)) else (none)
end
def laws_FnCarets.f (k : Nat) (l0 : List Int) : Option (Bool) := (laws_big.f l0).bind fun t392 => (if t392 = true then (some true) else (laws_FnCarets.j0 k l0))
def laws_FnCarets.T12 : Bool × List (List Nat × List Nat) := (true, [([], []), ([0], [0]), ([1], [1]), ([1, 2], [1, 2]), ([3, 1], [3]), ([4], [4]), ([4, 5], [4, 5]), ([6, 4], [6]), ([7], [7]), ([7], [7]), ([8, 9, 7, 7], [7, 8, 9]), ([7, 10], [7, 10]), ([11, 10], [11]), ([12], [12]), ([12], [12]), ([13, 14, 12, 12], [12, 13, 14]), ([12, 15], [12, 15]), ([16, 15], [16]), ([17], [17]), ([17], [17]), ([18, 19, 17, 17], [17, 18, 19]), ([17, 20], [17, 20]), ([21, 20], [21]), ([22], [22]), ([22], [22]), ([23, 24, 22, 22], [22, 23, 24]), ([22], [22]), ([26, 25, 22], [22, 26]), ([27], [27]), ([27], [27]), ([28, 29, 27, 27], [27, 28, 29]), ([30, 27], [27, 30]), ([27, 31, 22], [22, 27, 31]), ([25, 32, 22], [22, 25, 32]), ([22, 33], [22, 33]), ([34, 30], [34]), ([35], [35]), ([35], [35]), ([36, 37, 35, 35], [35, 36, 37]), ([35], [35]), ([39, 35], [35, 39]), ([35], [35]), ([41, 35], [35, 41]), ([40, 42, 35], [35, 40, 42]), ([43, 38, 35], [35, 43]), ([44], [44]), ([45, 44], [44, 45]), ([44], [44]), ([47, 44], [44, 47]), ([46, 48, 44], [44, 46, 48]), ([44, 49, 35], [35, 44, 49]), ([50, 44, 35], [35, 50]), ([51], [51]), ([51], [51]), ([52, 53, 51, 51], [51, 52, 53]), ([54, 51], [51, 54]), ([51, 55, 35], [35, 51, 55]), ([38, 56, 35], [35, 38, 56]), ([35, 57], [35, 57]), ([58, 54, 0, 1, 2, 3, 4, 5, 6, 7, 8, 9, 10, 11, 12, 13, 14, 15, 16, 17, 18, 19, 20, 21, 22, 23, 24, 25, 26, 27, 28, 29, 30, 31, 32, 33, 34, 35, 36, 37, 38, 39, 40, 41, 42, 43, 44, 45, 46, 47, 48, 49, 50, 51, 52, 53, 54, 55, 56, 57, 58], [58])])
def laws_FnCarets.B12 : List Nat := [0, 1, 3, 7, 15, 31, 63, 127, 255, 255, 1023, 2047, 4095, 8191, 8191, 32767, 65535, 131071, 262143, 262143, 1048575, 2097151, 4194303, 8388607, 8388607, 33554431, 8388607, 134217727, 268435455, 268435455, 1073741823, 2147483647, 4294967295, 8589934591, 17179869183, 34359738367, 68719476735, 68719476735, 274877906943, 68719476735, 618475290623, 68719476735, 2267742732287, 8315056685055, 17592186044415, 35184372088831, 70368744177663, 35184372088831, 175921860444159, 562949953421311, 1125899906842623, 2251799813685247, 4503599627370495, 4503599627370495, 18014398509481983, 36028797018963967, 72057594037927935, 144115188075855871, 288230376151711743, 576460752303423487]
theorem laws_FnCarets.tab12 : rtab .any (opsOf Tryd.f3 12) = laws_FnCarets.T12 := by kernel_rfl
theorem laws_FnCarets.bits12 : waitsOk laws_FnCarets.T12.2 laws_FnCarets.B12 = true := by kernel_rfl
theorem laws_FnCarets.calls (k : Nat) (A0 : Option Addr) (c0 : Nat) (l0 : List Int) (r : Bool) (w : World) (hr0 : Kd.C (Kd.int .u8) w A0 l0.length l0) (hc0 : l0.length ≤ c0) (hG : GW w) (h : laws_FnCarets.f k l0 = some r) :
  Calls Tryd.prog 3 #[.slice A0 l0.length c0] w fun e w' => e = .returned (.bool r) ∧ Below w.heap.size w w' := by
 have hu26 := Tryd.underlying26
 have HR0 := Aside0.mk hr0
 have HC0 := Aside0.mk hc0
 clear hr0 hc0
 have HG := Aside0.mk hG
 clear hG
 have HB := zA (Below.refl w.heap.size w)
 have H : ((laws_big.f l0).bind fun t392 => (if t392 = true then (some true) else (laws_FnCarets.j0 k l0))) = some r := h
 clear h
 replace H := Option.bind_eq_some_iff.mp H
 obtain ⟨t392, A20, H⟩ := H
 try dsimp only at H
 have A2 := Aside0.mk A20
 clear A20
 have HC3 := Aside0.mk H
 clear H
 go_enter Tryd.func3, Tryd.ntmps3
 go_upto_if 14 with (first | ((with_reducible refine zq 4 ?_); refine zg (some 14) Tryd.func4 #[.slice A0 l0.length c0] ?_; (with_reducible refine (laws_big.calls _ _ l0 t392 _ ?side1 ?side2 A2.out).mono ?_); (case side1 => repeat (first | exact HR0.out | (with_reducible refine Kd.C_alloc ?_ _) | (with_reducible refine Kd.C_drewN ?_ _) | (with_reducible refine Kd.C_drew ?_))); (case side2 => exact HC0.out); rintro e w' ⟨rfl, ⟨nd, rfl⟩⟩; refine ⟨_, rfl, ?_⟩))
 (try simp only [Act.put, zT])
 go_cut [] (fun wc => ∃ (kq : Nat), Aside0 (laws_FnCarets.j0 kq l0 = some r) ∧ Aside0 (kq ≤ k) ∧ Aside0 (Below w.heap.size w wc))
 case first =>
  have H := HC3.out
  clear HC3
  by_cases c4 : t392 = true
  ·subst c4
   rw [if_pos rfl] at H
   obtain rfl := Option.some.inj H
   go_wp2
   go_ret
   exact ⟨zE, zB⟩
  ·replace c4 := Bool.eq_false_iff.mpr c4
   subst c4
   rw [if_neg zFT] at H
   have H' := Aside0.mk H
   clear H
   go_wp2
   go_meet
   case rel => exact ⟨_, (by first | exact H' | (subst_vars; exact H')), ⟨by first | omega | exact Nat.le_refl _⟩, ⟨zB⟩⟩
 case rest =>
  clear HC3
  try clear p2
  try clear c3
  try clear c4
  obtain ⟨kq, HA, HJ2, HB⟩ := hcut
  cases kq with
  | zero => exact absurd HA.out (by simp [laws_FnCarets.j0])
  | succ kj2 =>
   have H := HA.out
   clear HA
   simp only [laws_FnCarets.j0] at H
   replace H := Option.bind_eq_some_iff.mp H
   obtain ⟨⟨t393, t394, t395, t396, t399, t400, t401, t402, t405, t406, t407, t408⟩, A50, H⟩ := H
   try dsimp only at H
   have A5 := Aside0.mk A50
   clear A50
   obtain ⟨y414, hy414⟩ : ∃ y_ : List ByteArray, y_ = (([] : List ByteArray)) := ⟨_, rfl⟩
   replace H : ((some (([] : List ByteArray) : List ByteArray)).bind fun y417 => ((impl_VerText.f kj2 t393 t394 t395 y414).bind fun t420 => (if 1 + t420.size ≤ 9223372036854775807 then ((impl_ParseRange.f kj2 ((⟨#[94]⟩ : ByteArray) ++ t420)).bind fun bt421 => ((impl_VerText.f kj2 t393 t394 t395 y414).bind fun t425 => (if 1 + t425.size ≤ 9223372036854775807 then ((impl_ParseRange.f kj2 ((⟨#[126]⟩ : ByteArray) ++ t425)).bind fun bt426 => ((impl_ParseRange.f kj2 (⟨#[42]⟩ : ByteArray)).bind fun bt430 => (if t393 = 0 then (if t393 = t399 then (if t394 = t400 then (if t394 = 0 then (laws_FnCarets.j1 kj2 bt421.1 bt421.2 bt426.1 bt426.2 bt430.1 bt430.2 (t395 == t401) t393 t394 t395 y414 t399 t400 t401 y417) else (laws_FnCarets.j1 kj2 bt421.1 bt421.2 bt426.1 bt426.2 bt430.1 bt430.2 true t393 t394 t395 y414 t399 t400 t401 y417)) else (laws_FnCarets.j1 kj2 bt421.1 bt421.2 bt426.1 bt426.2 bt430.1 bt430.2 false t393 t394 t395 y414 t399 t400 t401 y417)) else (laws_FnCarets.j1 kj2 bt421.1 bt421.2 bt426.1 bt426.2 bt430.1 bt430.2 false t393 t394 t395 y414 t399 t400 t401 y417)) else (laws_FnCarets.j1 kj2 bt421.1 bt421.2 bt426.1 bt426.2 bt430.1 bt430.2 (t393 == t399) t393 t394 t395 y414 t399 t400 t401 y417)))) else (none)))) else (none)))) = some r := by first | (rw [hy414]; with_reducible exact H) | (have H2_ := (Option.bind_some _ _).symm.trans H; rw [hy414]; with_reducible exact H2_) | (have H2_ := (Option.bind_some _ _).symm.trans H; with_reducible exact H2_) | with_reducible exact H | (rw [hy414]; exact H) | exact H
   have Ny414 := Aside0.mk hy414
   clear hy414
   obtain ⟨y417, hy417⟩ : ∃ y_ : List ByteArray, y_ = (([] : List ByteArray)) := ⟨_, rfl⟩
   replace H : ((impl_VerText.f kj2 t393 t394 t395 y414).bind fun t420 => (if 1 + t420.size ≤ 9223372036854775807 then ((impl_ParseRange.f kj2 ((⟨#[94]⟩ : ByteArray) ++ t420)).bind fun bt421 => ((impl_VerText.f kj2 t393 t394 t395 y414).bind fun t425 => (if 1 + t425.size ≤ 9223372036854775807 then ((impl_ParseRange.f kj2 ((⟨#[126]⟩ : ByteArray) ++ t425)).bind fun bt426 => ((impl_ParseRange.f kj2 (⟨#[42]⟩ : ByteArray)).bind fun bt430 => (if t393 = 0 then (if t393 = t399 then (if t394 = t400 then (if t394 = 0 then (laws_FnCarets.j1 kj2 bt421.1 bt421.2 bt426.1 bt426.2 bt430.1 bt430.2 (t395 == t401) t393 t394 t395 y414 t399 t400 t401 y417) else (laws_FnCarets.j1 kj2 bt421.1 bt421.2 bt426.1 bt426.2 bt430.1 bt430.2 true t393 t394 t395 y414 t399 t400 t401 y417)) else (laws_FnCarets.j1 kj2 bt421.1 bt421.2 bt426.1 bt426.2 bt430.1 bt430.2 false t393 t394 t395 y414 t399 t400 t401 y417)) else (laws_FnCarets.j1 kj2 bt421.1 bt421.2 bt426.1 bt426.2 bt430.1 bt430.2 false t393 t394 t395 y414 t399 t400 t401 y417)) else (laws_FnCarets.j1 kj2 bt421.1 bt421.2 bt426.1 bt426.2 bt430.1 bt430.2 (t393 == t399) t393 t394 t395 y414 t399 t400 t401 y417)))) else (none)))) else (none))) = some r := by first | (rw [hy417]; with_reducible exact H) | (have H2_ := (Option.bind_some _ _).symm.trans H; rw [hy417]; with_reducible exact H2_) | (have H2_ := (Option.bind_some _ _).symm.trans H; with_reducible exact H2_) | with_reducible exact H | (rw [hy417]; exact H) | exact H
   have Ny417 := Aside0.mk hy417
   clear hy417
   replace H := Option.bind_eq_some_iff.mp H
   obtain ⟨t420, A60, H⟩ := H
   try dsimp only at H
   have A6 := Aside0.mk A60
   clear A60
   by_cases c7 : 1 + t420.size ≤ 9223372036854775807
   ·rw [if_pos c7] at H
    have c7b0 := eq_true c7
    have c7b1 := decide_eq_true c7
    try have c7b2 : (9223372036854775807 < 1 + t420.size) = False := eq_false (Nat.not_lt.2 c7)
    replace H := Option.bind_eq_some_iff.mp H
    obtain ⟨⟨t421, t424⟩, A80, H⟩ := H
    try dsimp only at H
    have A8 := Aside0.mk A80
    clear A80
    replace H := Option.bind_eq_some_iff.mp H
    obtain ⟨t425, A90, H⟩ := H
    try dsimp only at H
    have A9 := Aside0.mk A90
    clear A90
    by_cases c10 : 1 + t425.size ≤ 9223372036854775807
    ·rw [if_pos c10] at H
     have c10b0 := eq_true c10
     have c10b1 := decide_eq_true c10
     try have c10b2 : (9223372036854775807 < 1 + t425.size) = False := eq_false (Nat.not_lt.2 c10)
     replace H := Option.bind_eq_some_iff.mp H
     obtain ⟨⟨t426, t429⟩, A110, H⟩ := H
     try dsimp only at H
     have A11 := Aside0.mk A110
     clear A110
     replace H := Option.bind_eq_some_iff.mp H
     obtain ⟨⟨t430, t433⟩, A120, H⟩ := H
     try dsimp only at H
     have A12 := Aside0.mk A120
     clear A120
     have HC13 := Aside0.mk H
     clear H
     go_upto_if 50 with (first | ((with_reducible refine zq 5 ?_); refine zg (some 17) Tryd.func5 #[.slice A0 l0.length c0] ?_; (with_reducible refine (spec_DrawVers.calls kj2 _ _ l0 t393 t394 t395 t396 t399 t400 t401 t402 t405 t406 t407 t408 _ ?side1 ?side2 A5.out).mono ?_); (case side1 => exact zC (Kd.C_below HR0.out HB.out)); (case side2 => exact HC0.out); rintro e w14 ⟨v397, v403, v409, rfl, ho0, ho1, ho2, hb⟩; refine ⟨_, rfl, ?_⟩; have HO398 := zA (Kd.R_lower ho0 (below_size (zB))); have HO404 := zA (Kd.R_lower ho1 (below_size (zB))); have HO410 := zA (Kd.R_lower ho2 (below_size (zB))); replace HB := zA (below_step (zB) hb); (try clear hb ho0 ho1 ho2)) | ((with_reducible refine zd 3 ?_); refine ze 3 26 #[.int .i64 0, .int .i64 0, .int .i64 0, .slice none 0 0] ?_; intro gb411 hg w15 hbox hb; replace HO398 := zr HO398 hb; replace HO404 := zr HO404 hb; replace HO410 := zr HO410 hb; have BK411 := zA (hbox); have GW411 := zi HB hg; have GE411 := zi HB hg; replace HB := zA (below_step (zB) hb); clear hb hbox hg) | ((with_reducible refine zd 4 ?_); refine ze 4 26 #[.int .i64 0, .int .i64 0, .int .i64 0, .slice none 0 0] ?_; intro gb412 hg w16 hbox hb; replace HO398 := zr HO398 hb; replace HO404 := zr HO404 hb; replace HO410 := zr HO410 hb; have BK412 := zA (hbox); have GW412 := zi HB hg; have GE412 := zi HB hg; replace HB := zh HB hb; have NB411_412 := zA (zL hg (zK BK411.out)); have NB412_411 := zA (zJ hg (zK BK411.out)); replace BK411 := zb BK411 hb; clear hb hbox hg) | ((with_reducible refine zd 5 ?_); refine ze 5 26 #[.int .i64 0, .int .i64 0, .int .i64 0, .slice none 0 0] ?_; intro gb413 hg w17 hbox hb; replace HO398 := zr HO398 hb; replace HO404 := zr HO404 hb; replace HO410 := zr HO410 hb; have BK413 := zA (hbox); have GW413 := zi HB hg; have GE413 := zi HB hg; replace HB := zh HB hb; have NB411_413 := zA (zL hg (zK BK411.out)); have NB413_411 := zA (zJ hg (zK BK411.out)); replace BK411 := zb BK411 hb; have NB412_413 := zA (zL hg (zK BK412.out)); have NB413_412 := zA (zJ hg (zK BK412.out)); replace BK412 := zb BK412 hb; clear hb hbox hg; have hnb18 := NB411_412.out; have hnc18 := NB412_411.out; have hnb19 := NB411_413.out; have hnc19 := NB413_411.out; obtain ⟨hcz20_0, hcz20_1, hcz20_2, hcz20_3, hfz20_0, hfz20_1, hfz20_2, hfz20_3⟩ := ze4 BK411.out; obtain ⟨Ao21, co21, eo21⟩ := Kd.R_slice HO398.out; subst eo21) | ((with_reducible refine gate_store (t := 26) (p := 3) rfl ?_); refine store_event (t := 26) (p := 3) (v := ?vo_w22) (w1 := ((((w17.setCell ⟨gb411, 0, none⟩ (.int .i64 t393)).setCell ⟨gb411, 1, none⟩ (.int .i64 t394)).setCell ⟨gb411, 2, none⟩ (.int .i64 t395)).setCell ⟨gb411, 3, none⟩ (.slice Ao21 t396.length co21))) ?hg ?ho ?hn ?hr ?_; (case ho => rfl); (case hg => rfl); (case hn => rfl); (case hr => first | (go_simp; done) | (go_simp; rfl)); intro w22 hw; have n0_ : Aside0 (Kd.R Kd.string 9 w22 w.heap.size (fun k_ => some k_ ≠ (v403 : Value).ownBlock ∧ some k_ ≠ (v409 : Value).ownBlock) (.slice Ao21 t396.length co21) t396) := ⟨(by rw [hw]; exact (by (with_reducible repeat (first | apply Kd.R_alloc | apply Kd.R_drewN | apply Kd.R_drew)); exact Kd.R_mono (Kd.R_far (p := ⟨gb411, 3, none⟩) (Kd.R_far (p := ⟨gb411, 2, none⟩) (Kd.R_far (p := ⟨gb411, 1, none⟩) (Kd.R_far (p := ⟨gb411, 0, none⟩) (Kd.R_types HO398.out BK411.out (by decide)) (fun _ hk => hk.2) (.int .i64 t393)) (fun _ hk => hk.2) (.int .i64 t394)) (fun _ hk => hk.2) (.int .i64 t395)) (fun _ hk => hk.2) (.slice Ao21 t396.length co21)) (fun _ hk => ⟨hk.1.1, hk.1.2⟩)))⟩; have n1_ : Aside0 (Kd.R Kd.string 9 w22 w.heap.size (fun k_ => some k_ ≠ (.slice Ao21 t396.length co21 : Value).ownBlock ∧ some k_ ≠ (v409 : Value).ownBlock) v403 t402) := ⟨(by rw [hw]; exact (by (with_reducible repeat (first | apply Kd.R_alloc | apply Kd.R_drewN | apply Kd.R_drew)); exact Kd.R_mono (Kd.R_far (p := ⟨gb411, 3, none⟩) (Kd.R_far (p := ⟨gb411, 2, none⟩) (Kd.R_far (p := ⟨gb411, 1, none⟩) (Kd.R_far (p := ⟨gb411, 0, none⟩) (Kd.R_types HO404.out BK411.out (by decide)) (fun _ hk => hk.2) (.int .i64 t393)) (fun _ hk => hk.2) (.int .i64 t394)) (fun _ hk => hk.2) (.int .i64 t395)) (fun _ hk => hk.2) (.slice Ao21 t396.length co21)) (fun _ hk => ⟨hk.1.1, hk.1.2⟩)))⟩; have n2_ : Aside0 (Kd.R Kd.string 9 w22 w.heap.size (fun k_ => some k_ ≠ (.slice Ao21 t396.length co21 : Value).ownBlock ∧ some k_ ≠ (v403 : Value).ownBlock) v409 t408) := ⟨(by rw [hw]; exact (by (with_reducible repeat (first | apply Kd.R_alloc | apply Kd.R_drewN | apply Kd.R_drew)); exact Kd.R_mono (Kd.R_far (p := ⟨gb411, 3, none⟩) (Kd.R_far (p := ⟨gb411, 2, none⟩) (Kd.R_far (p := ⟨gb411, 1, none⟩) (Kd.R_far (p := ⟨gb411, 0, none⟩) (Kd.R_types HO410.out BK411.out (by decide)) (fun _ hk => hk.2) (.int .i64 t393)) (fun _ hk => hk.2) (.int .i64 t394)) (fun _ hk => hk.2) (.int .i64 t395)) (fun _ hk => hk.2) (.slice Ao21 t396.length co21)) (fun _ hk => ⟨hk.1.1, hk.1.2⟩)))⟩; have n3_ : Aside0 (w22.heap[gb411]? = some (.cells #[.int .i64 t393, .int .i64 t394, .int .i64 t395, .slice Ao21 t396.length co21] 26 (0, 0))) := ⟨(by rw [hw]; exact (by (with_reducible repeat (first | refine blk_drewN ?_ _ | refine blk_drew ?_ | refine blk_alloc ?_ _)); refine blk_put (cs := #[.int .i64 t393, .int .i64 t394, .int .i64 t395, .slice none 0 0]) ?_ 3 _ rfl; (with_reducible repeat (first | refine blk_drewN ?_ _ | refine blk_drew ?_ | refine blk_alloc ?_ _)); refine blk_put (cs := #[.int .i64 t393, .int .i64 t394, .int .i64 0, .slice none 0 0]) ?_ 2 _ rfl; (with_reducible repeat (first | refine blk_drewN ?_ _ | refine blk_drew ?_ | refine blk_alloc ?_ _)); refine blk_put (cs := #[.int .i64 t393, .int .i64 0, .int .i64 0, .slice none 0 0]) ?_ 1 _ rfl; (with_reducible repeat (first | refine blk_drewN ?_ _ | refine blk_drew ?_ | refine blk_alloc ?_ _)); refine blk_put (cs := #[.int .i64 0, .int .i64 0, .int .i64 0, .slice none 0 0]) ?_ 0 _ rfl; (with_reducible repeat (first | refine blk_drewN ?_ _ | refine blk_drew ?_ | refine blk_alloc ?_ _)); exact BK411.out))⟩; have n4_ : Aside0 (w22.heap[gb412]? = some (.cells #[.int .i64 0, .int .i64 0, .int .i64 0, .slice none 0 0] 26 (0, 0))) := ⟨(by rw [hw]; exact (zK BK412.out))⟩; have n5_ : Aside0 (w22.heap[gb413]? = some (.cells #[.int .i64 0, .int .i64 0, .int .i64 0, .slice none 0 0] 26 (0, 0))) := ⟨(by rw [hw]; exact (zK BK413.out))⟩; have n6_ : Aside0 (Below w.heap.size w w22) := ⟨(by rw [hw]; exact (zW HB.out))⟩; clear hw; clear HO398; clear HO404; clear HO410; clear BK411; clear BK412; clear BK413; clear HB; have HO398 := n0_; have HO404 := n1_; have HO410 := n2_; have BK411 := n3_; have BK412 := n4_; have BK413 := n5_; have HB := n6_; clear n0_ n1_ n2_ n3_ n4_ n5_ n6_; have hnb23 := NB412_413.out; have hnc23 := NB413_412.out; obtain ⟨hcz24_0, hcz24_1, hcz24_2, hcz24_3, hfz24_0, hfz24_1, hfz24_2, hfz24_3⟩ := ze4 BK412.out; obtain ⟨Ao25, co25, eo25⟩ := Kd.R_slice HO404.out; subst eo25) | ((with_reducible refine gate_store (t := 26) (p := 4) rfl ?_); refine store_event (t := 26) (p := 4) (v := ?vo_w26) (w1 := ((((w22.setCell ⟨gb412, 0, none⟩ (.int .i64 t399)).setCell ⟨gb412, 1, none⟩ (.int .i64 t400)).setCell ⟨gb412, 2, none⟩ (.int .i64 t401)).setCell ⟨gb412, 3, none⟩ (.slice Ao25 t402.length co25))) ?hg ?ho ?hn ?hr ?_; (case ho => rfl); (case hg => rfl); (case hn => rfl); (case hr => first | (go_simp; done) | (go_simp; rfl)); intro w26 hw; have n0_ : Aside0 (Kd.R Kd.string 9 w26 w.heap.size (fun k_ => some k_ ≠ (.slice Ao25 t402.length co25 : Value).ownBlock ∧ some k_ ≠ (v409 : Value).ownBlock) (.slice Ao21 t396.length co21) t396) := ⟨(by rw [hw]; exact (by (with_reducible repeat (first | apply Kd.R_alloc | apply Kd.R_drewN | apply Kd.R_drew)); exact Kd.R_mono (Kd.R_far (p := ⟨gb412, 3, none⟩) (Kd.R_far (p := ⟨gb412, 2, none⟩) (Kd.R_far (p := ⟨gb412, 1, none⟩) (Kd.R_far (p := ⟨gb412, 0, none⟩) (Kd.R_types HO398.out BK412.out (by decide)) (fun _ hk => hk.2) (.int .i64 t399)) (fun _ hk => hk.2) (.int .i64 t400)) (fun _ hk => hk.2) (.int .i64 t401)) (fun _ hk => hk.2) (.slice Ao25 t402.length co25)) (fun _ hk => ⟨hk.1.1, hk.1.2⟩)))⟩; have n1_ : Aside0 (Kd.R Kd.string 9 w26 w.heap.size (fun k_ => some k_ ≠ (.slice Ao21 t396.length co21 : Value).ownBlock ∧ some k_ ≠ (v409 : Value).ownBlock) (.slice Ao25 t402.length co25) t402) := ⟨(by rw [hw]; exact (by (with_reducible repeat (first | apply Kd.R_alloc | apply Kd.R_drewN | apply Kd.R_drew)); exact Kd.R_mono (Kd.R_far (p := ⟨gb412, 3, none⟩) (Kd.R_far (p := ⟨gb412, 2, none⟩) (Kd.R_far (p := ⟨gb412, 1, none⟩) (Kd.R_far (p := ⟨gb412, 0, none⟩) (Kd.R_types HO404.out BK412.out (by decide)) (fun _ hk => hk.2) (.int .i64 t399)) (fun _ hk => hk.2) (.int .i64 t400)) (fun _ hk => hk.2) (.int .i64 t401)) (fun _ hk => hk.2) (.slice Ao25 t402.length co25)) (fun _ hk => ⟨hk.1.1, hk.1.2⟩)))⟩; have n2_ : Aside0 (Kd.R Kd.string 9 w26 w.heap.size (fun k_ => some k_ ≠ (.slice Ao21 t396.length co21 : Value).ownBlock ∧ some k_ ≠ (.slice Ao25 t402.length co25 : Value).ownBlock) v409 t408) := ⟨(by rw [hw]; exact (by (with_reducible repeat (first | apply Kd.R_alloc | apply Kd.R_drewN | apply Kd.R_drew)); exact Kd.R_mono (Kd.R_far (p := ⟨gb412, 3, none⟩) (Kd.R_far (p := ⟨gb412, 2, none⟩) (Kd.R_far (p := ⟨gb412, 1, none⟩) (Kd.R_far (p := ⟨gb412, 0, none⟩) (Kd.R_types HO410.out BK412.out (by decide)) (fun _ hk => hk.2) (.int .i64 t399)) (fun _ hk => hk.2) (.int .i64 t400)) (fun _ hk => hk.2) (.int .i64 t401)) (fun _ hk => hk.2) (.slice Ao25 t402.length co25)) (fun _ hk => ⟨hk.1.1, hk.1.2⟩)))⟩; have n3_ : Aside0 (w26.heap[gb411]? = some (.cells #[.int .i64 t393, .int .i64 t394, .int .i64 t395, .slice Ao21 t396.length co21] 26 (0, 0))) := ⟨(by rw [hw]; exact (zK BK411.out))⟩; have n4_ : Aside0 (w26.heap[gb412]? = some (.cells #[.int .i64 t399, .int .i64 t400, .int .i64 t401, .slice Ao25 t402.length co25] 26 (0, 0))) := ⟨(by rw [hw]; exact (by (with_reducible repeat (first | refine blk_drewN ?_ _ | refine blk_drew ?_ | refine blk_alloc ?_ _)); refine blk_put (cs := #[.int .i64 t399, .int .i64 t400, .int .i64 t401, .slice none 0 0]) ?_ 3 _ rfl; (with_reducible repeat (first | refine blk_drewN ?_ _ | refine blk_drew ?_ | refine blk_alloc ?_ _)); refine blk_put (cs := #[.int .i64 t399, .int .i64 t400, .int .i64 0, .slice none 0 0]) ?_ 2 _ rfl; (with_reducible repeat (first | refine blk_drewN ?_ _ | refine blk_drew ?_ | refine blk_alloc ?_ _)); refine blk_put (cs := #[.int .i64 t399, .int .i64 0, .int .i64 0, .slice none 0 0]) ?_ 1 _ rfl; (with_reducible repeat (first | refine blk_drewN ?_ _ | refine blk_drew ?_ | refine blk_alloc ?_ _)); refine blk_put (cs := #[.int .i64 0, .int .i64 0, .int .i64 0, .slice none 0 0]) ?_ 0 _ rfl; (with_reducible repeat (first | refine blk_drewN ?_ _ | refine blk_drew ?_ | refine blk_alloc ?_ _)); exact BK412.out))⟩; have n5_ : Aside0 (w26.heap[gb413]? = some (.cells #[.int .i64 0, .int .i64 0, .int .i64 0, .slice none 0 0] 26 (0, 0))) := ⟨(by rw [hw]; exact (zK BK413.out))⟩; have n6_ : Aside0 (Below w.heap.size w w26) := ⟨(by rw [hw]; exact (zW HB.out))⟩; clear hw; clear HO398; clear HO404; clear HO410; clear BK411; clear BK412; clear BK413; clear HB; have HO398 := n0_; have HO404 := n1_; have HO410 := n2_; have BK411 := n3_; have BK412 := n4_; have BK413 := n5_; have HB := n6_; clear n0_ n1_ n2_ n3_ n4_ n5_ n6_; obtain ⟨hcz27_0, hcz27_1, hcz27_2, hcz27_3, hfz27_0, hfz27_1, hfz27_2, hfz27_3⟩ := ze4 BK413.out; obtain ⟨Ao28, co28, eo28⟩ := Kd.R_slice HO410.out; subst eo28) | ((with_reducible refine gate_store (t := 26) (p := 5) rfl ?_); refine store_event (t := 26) (p := 5) (v := ?vo_w29) (w1 := ((((w26.setCell ⟨gb413, 0, none⟩ (.int .i64 t405)).setCell ⟨gb413, 1, none⟩ (.int .i64 t406)).setCell ⟨gb413, 2, none⟩ (.int .i64 t407)).setCell ⟨gb413, 3, none⟩ (.slice Ao28 t408.length co28))) ?hg ?ho ?hn ?hr ?_; (case ho => rfl); (case hg => rfl); (case hn => rfl); (case hr => first | (go_simp; done) | (go_simp; rfl)); intro w29 hw; have n0_ : Aside0 (Kd.R Kd.string 9 w29 w.heap.size (fun k_ => some k_ ≠ (.slice Ao25 t402.length co25 : Value).ownBlock ∧ some k_ ≠ (.slice Ao28 t408.length co28 : Value).ownBlock) (.slice Ao21 t396.length co21) t396) := ⟨(by rw [hw]; exact (by (with_reducible repeat (first | apply Kd.R_alloc | apply Kd.R_drewN | apply Kd.R_drew)); exact Kd.R_mono (Kd.R_far (p := ⟨gb413, 3, none⟩) (Kd.R_far (p := ⟨gb413, 2, none⟩) (Kd.R_far (p := ⟨gb413, 1, none⟩) (Kd.R_far (p := ⟨gb413, 0, none⟩) (Kd.R_types HO398.out BK413.out (by decide)) (fun _ hk => hk.2) (.int .i64 t405)) (fun _ hk => hk.2) (.int .i64 t406)) (fun _ hk => hk.2) (.int .i64 t407)) (fun _ hk => hk.2) (.slice Ao28 t408.length co28)) (fun _ hk => ⟨hk.1.1, hk.1.2⟩)))⟩; have n1_ : Aside0 (Kd.R Kd.string 9 w29 w.heap.size (fun k_ => some k_ ≠ (.slice Ao21 t396.length co21 : Value).ownBlock ∧ some k_ ≠ (.slice Ao28 t408.length co28 : Value).ownBlock) (.slice Ao25 t402.length co25) t402) := ⟨(by rw [hw]; exact (by (with_reducible repeat (first | apply Kd.R_alloc | apply Kd.R_drewN | apply Kd.R_drew)); exact Kd.R_mono (Kd.R_far (p := ⟨gb413, 3, none⟩) (Kd.R_far (p := ⟨gb413, 2, none⟩) (Kd.R_far (p := ⟨gb413, 1, none⟩) (Kd.R_far (p := ⟨gb413, 0, none⟩) (Kd.R_types HO404.out BK413.out (by decide)) (fun _ hk => hk.2) (.int .i64 t405)) (fun _ hk => hk.2) (.int .i64 t406)) (fun _ hk => hk.2) (.int .i64 t407)) (fun _ hk => hk.2) (.slice Ao28 t408.length co28)) (fun _ hk => ⟨hk.1.1, hk.1.2⟩)))⟩; have n2_ : Aside0 (Kd.R Kd.string 9 w29 w.heap.size (fun k_ => some k_ ≠ (.slice Ao21 t396.length co21 : Value).ownBlock ∧ some k_ ≠ (.slice Ao25 t402.length co25 : Value).ownBlock) (.slice Ao28 t408.length co28) t408) := ⟨(by rw [hw]; exact (by (with_reducible repeat (first | apply Kd.R_alloc | apply Kd.R_drewN | apply Kd.R_drew)); exact Kd.R_mono (Kd.R_far (p := ⟨gb413, 3, none⟩) (Kd.R_far (p := ⟨gb413, 2, none⟩) (Kd.R_far (p := ⟨gb413, 1, none⟩) (Kd.R_far (p := ⟨gb413, 0, none⟩) (Kd.R_types HO410.out BK413.out (by decide)) (fun _ hk => hk.2) (.int .i64 t405)) (fun _ hk => hk.2) (.int .i64 t406)) (fun _ hk => hk.2) (.int .i64 t407)) (fun _ hk => hk.2) (.slice Ao28 t408.length co28)) (fun _ hk => ⟨hk.1.1, hk.1.2⟩)))⟩; have n3_ : Aside0 (w29.heap[gb411]? = some (.cells #[.int .i64 t393, .int .i64 t394, .int .i64 t395, .slice Ao21 t396.length co21] 26 (0, 0))) := ⟨(by rw [hw]; exact (zK BK411.out))⟩; have n4_ : Aside0 (w29.heap[gb412]? = some (.cells #[.int .i64 t399, .int .i64 t400, .int .i64 t401, .slice Ao25 t402.length co25] 26 (0, 0))) := ⟨(by rw [hw]; exact (zK BK412.out))⟩; have n5_ : Aside0 (w29.heap[gb413]? = some (.cells #[.int .i64 t405, .int .i64 t406, .int .i64 t407, .slice Ao28 t408.length co28] 26 (0, 0))) := ⟨(by rw [hw]; exact (by (with_reducible repeat (first | refine blk_drewN ?_ _ | refine blk_drew ?_ | refine blk_alloc ?_ _)); refine blk_put (cs := #[.int .i64 t405, .int .i64 t406, .int .i64 t407, .slice none 0 0]) ?_ 3 _ rfl; (with_reducible repeat (first | refine blk_drewN ?_ _ | refine blk_drew ?_ | refine blk_alloc ?_ _)); refine blk_put (cs := #[.int .i64 t405, .int .i64 t406, .int .i64 0, .slice none 0 0]) ?_ 2 _ rfl; (with_reducible repeat (first | refine blk_drewN ?_ _ | refine blk_drew ?_ | refine blk_alloc ?_ _)); refine blk_put (cs := #[.int .i64 t405, .int .i64 0, .int .i64 0, .slice none 0 0]) ?_ 1 _ rfl; (with_reducible repeat (first | refine blk_drewN ?_ _ | refine blk_drew ?_ | refine blk_alloc ?_ _)); refine blk_put (cs := #[.int .i64 0, .int .i64 0, .int .i64 0, .slice none 0 0]) ?_ 0 _ rfl; (with_reducible repeat (first | refine blk_drewN ?_ _ | refine blk_drew ?_ | refine blk_alloc ?_ _)); exact BK413.out))⟩; have n6_ : Aside0 (Below w.heap.size w w29) := ⟨(by rw [hw]; exact (zW HB.out))⟩; clear hw; clear HO398; clear HO404; clear HO410; clear BK411; clear BK412; clear BK413; clear HB; have HO398 := n0_; have HO404 := n1_; have HO410 := n2_; have BK411 := n3_; have BK412 := n4_; have BK413 := n5_; have HB := n6_; clear n0_ n1_ n2_ n3_ n4_ n5_ n6_) | ((with_reducible refine gate_dst (N := 21) rfl ?_); refine Kd.R_lit Kd.string _ 9 ?hg (N := 21) ?hd (xs := ([] : List ByteArray)) (inner := []) (ok := fun _ => True) (okp := fun _ => True) ?hr ?hp (fun _ hk => hk) trivial (Below.refl _ _) (Nat.le_refl _) (by simp) ?_; (case hd => rfl); (case hg => rfl); (case hr => first | (go_simp; done) | (go_simp; rfl)); (case hp => exact (Reps.none _ _)); intro v415 w30 ho31 hb hg_ hnew_; clear hg_ hnew_; (first | rw [← Ny414.out] at ho31 | (simp only [Int.reduceToNat] at ho31; rw [← Ny414.out] at ho31)); have HO416 := zA (Kd.R_lower (Kd.R_new' (Kd.R_new' (Kd.R_new' ho31 (Kd.R_lt (zR HO398.out))) (Kd.R_lt (zR HO404.out))) (Kd.R_lt (zR HO410.out))) (below_size (zW HB.out))); replace HO398 := zA (Kd.R_elder' (zR HO398.out) (Kd.R_base ho31) hb); replace HO404 := zA (Kd.R_elder' (zR HO404.out) (Kd.R_base ho31) hb); replace HO410 := zA (Kd.R_elder' (zR HO410.out) (Kd.R_base ho31) hb); replace BK411 := zb BK411 hb; replace BK412 := zb BK412 hb; replace BK413 := zb BK413 hb; replace HB := zh HB hb; clear hb ho31; obtain ⟨Ao32, co32, eo32⟩ := Kd.R_slice HO416.out; subst eo32; obtain ⟨hcz33_0, hcz33_1, hcz33_2, hcz33_3, hfz33_0, hfz33_1, hfz33_2, hfz33_3⟩ := ze4 BK411.out) | ((with_reducible refine gate_store (t := 24) (p := 22) rfl ?_); refine store_event (t := 24) (p := 22) (v := ?vo_w34) (w1 := (w30.setCell ⟨gb411, 3, none⟩ (.slice Ao32 y414.length co32))) ?hg ?ho ?hn ?hr ?_; (case ho => rfl); (case hg => rfl); (case hn => rfl); (case hr => first | (go_simp; done) | (go_simp; rfl)); intro w34 hw; have n0_ : Aside0 (Kd.R Kd.string 9 w34 w.heap.size (fun k_ => some k_ ≠ (.slice Ao25 t402.length co25 : Value).ownBlock ∧ some k_ ≠ (.slice Ao28 t408.length co28 : Value).ownBlock ∧ some k_ ≠ (.slice Ao32 y414.length co32 : Value).ownBlock) (.slice Ao21 t396.length co21) t396) := ⟨(by rw [hw]; exact (by (with_reducible repeat (first | apply Kd.R_alloc | apply Kd.R_drewN | apply Kd.R_drew)); exact Kd.R_mono (Kd.R_far (p := ⟨gb411, 3, none⟩) (Kd.R_types HO398.out BK411.out (by decide)) (fun _ hk => hk.2) (.slice Ao32 y414.length co32)) (fun _ hk => ⟨hk.1.1.1, ⟨hk.1.1.2, hk.1.2⟩⟩)))⟩; have n1_ : Aside0 (Kd.R Kd.string 9 w34 w.heap.size (fun k_ => some k_ ≠ (.slice Ao21 t396.length co21 : Value).ownBlock ∧ some k_ ≠ (.slice Ao28 t408.length co28 : Value).ownBlock ∧ some k_ ≠ (.slice Ao32 y414.length co32 : Value).ownBlock) (.slice Ao25 t402.length co25) t402) := ⟨(by rw [hw]; exact (by (with_reducible repeat (first | apply Kd.R_alloc | apply Kd.R_drewN | apply Kd.R_drew)); exact Kd.R_mono (Kd.R_far (p := ⟨gb411, 3, none⟩) (Kd.R_types HO404.out BK411.out (by decide)) (fun _ hk => hk.2) (.slice Ao32 y414.length co32)) (fun _ hk => ⟨hk.1.1.1, ⟨hk.1.1.2, hk.1.2⟩⟩)))⟩; have n2_ : Aside0 (Kd.R Kd.string 9 w34 w.heap.size (fun k_ => some k_ ≠ (.slice Ao21 t396.length co21 : Value).ownBlock ∧ some k_ ≠ (.slice Ao25 t402.length co25 : Value).ownBlock ∧ some k_ ≠ (.slice Ao32 y414.length co32 : Value).ownBlock) (.slice Ao28 t408.length co28) t408) := ⟨(by rw [hw]; exact (by (with_reducible repeat (first | apply Kd.R_alloc | apply Kd.R_drewN | apply Kd.R_drew)); exact Kd.R_mono (Kd.R_far (p := ⟨gb411, 3, none⟩) (Kd.R_types HO410.out BK411.out (by decide)) (fun _ hk => hk.2) (.slice Ao32 y414.length co32)) (fun _ hk => ⟨hk.1.1.1, ⟨hk.1.1.2, hk.1.2⟩⟩)))⟩; have n3_ : Aside0 (Kd.R Kd.string 9 w34 w.heap.size (fun k_ => some k_ ≠ (.slice Ao21 t396.length co21 : Value).ownBlock ∧ some k_ ≠ (.slice Ao25 t402.length co25 : Value).ownBlock ∧ some k_ ≠ (.slice Ao28 t408.length co28 : Value).ownBlock) (.slice Ao32 y414.length co32) y414) := ⟨(by rw [hw]; exact (by (with_reducible repeat (first | apply Kd.R_alloc | apply Kd.R_drewN | apply Kd.R_drew)); exact Kd.R_mono (Kd.R_far (p := ⟨gb411, 3, none⟩) (Kd.R_types HO416.out BK411.out (by decide)) (fun _ hk => hk.2) (.slice Ao32 y414.length co32)) (fun _ hk => ⟨hk.1.1.1.2, ⟨hk.1.1.2, hk.1.2⟩⟩)))⟩; have n4_ : Aside0 (w34.heap[gb411]? = some (.cells #[.int .i64 t393, .int .i64 t394, .int .i64 t395, .slice Ao32 y414.length co32] 26 (0, 0))) := ⟨(by rw [hw]; exact (by (with_reducible repeat (first | refine blk_drewN ?_ _ | refine blk_drew ?_ | refine blk_alloc ?_ _)); refine blk_put (cs := #[.int .i64 t393, .int .i64 t394, .int .i64 t395, .slice Ao21 t396.length co21]) ?_ 3 _ rfl; (with_reducible repeat (first | refine blk_drewN ?_ _ | refine blk_drew ?_ | refine blk_alloc ?_ _)); exact BK411.out))⟩; have n5_ : Aside0 (w34.heap[gb412]? = some (.cells #[.int .i64 t399, .int .i64 t400, .int .i64 t401, .slice Ao25 t402.length co25] 26 (0, 0))) := ⟨(by rw [hw]; exact (zK BK412.out))⟩; have n6_ : Aside0 (w34.heap[gb413]? = some (.cells #[.int .i64 t405, .int .i64 t406, .int .i64 t407, .slice Ao28 t408.length co28] 26 (0, 0))) := ⟨(by rw [hw]; exact (zK BK413.out))⟩; have n7_ : Aside0 (Below w.heap.size w w34) := ⟨(by rw [hw]; exact (zW HB.out))⟩; clear hw; clear HO398; clear HO404; clear HO410; clear HO416; clear BK411; clear BK412; clear BK413; clear HB; have HO398 := n0_; have HO404 := n1_; have HO410 := n2_; have HO416 := n3_; have BK411 := n4_; have BK412 := n5_; have BK413 := n6_; have HB := n7_; clear n0_ n1_ n2_ n3_ n4_ n5_ n6_ n7_) | ((with_reducible refine gate_dst (N := 23) rfl ?_); refine Kd.R_lit Kd.string _ 9 ?hg (N := 23) ?hd (xs := ([] : List ByteArray)) (inner := []) (ok := fun _ => True) (okp := fun _ => True) ?hr ?hp (fun _ hk => hk) trivial (Below.refl _ _) (Nat.le_refl _) (by simp) ?_; (case hd => rfl); (case hg => rfl); (case hr => first | (go_simp; done) | (go_simp; rfl)); (case hp => exact (Reps.none _ _)); intro v418 w35 ho36 hb hg_ hnew_; clear hg_ hnew_; (first | rw [← Ny417.out] at ho36 | (simp only [Int.reduceToNat] at ho36; rw [← Ny417.out] at ho36)); have HO419 := zA (Kd.R_lower (Kd.R_new' (Kd.R_new' (Kd.R_new' (Kd.R_new' ho36 (Kd.R_lt (zR HO398.out))) (Kd.R_lt (zR HO404.out))) (Kd.R_lt (zR HO410.out))) (Kd.R_lt (zR HO416.out))) (below_size (zW HB.out))); replace HO398 := zA (Kd.R_elder' (zR HO398.out) (Kd.R_base ho36) hb); replace HO404 := zA (Kd.R_elder' (zR HO404.out) (Kd.R_base ho36) hb); replace HO410 := zA (Kd.R_elder' (zR HO410.out) (Kd.R_base ho36) hb); replace HO416 := zA (Kd.R_elder' (zR HO416.out) (Kd.R_base ho36) hb); replace BK411 := zb BK411 hb; replace BK412 := zb BK412 hb; replace BK413 := zb BK413 hb; replace HB := zh HB hb; clear hb ho36; obtain ⟨Ao37, co37, eo37⟩ := Kd.R_slice HO419.out; subst eo37; obtain ⟨hcz38_0, hcz38_1, hcz38_2, hcz38_3, hfz38_0, hfz38_1, hfz38_2, hfz38_3⟩ := ze4 BK412.out; obtain ⟨hcz39_0, hcz39_1, hcz39_2, hcz39_3, hfz39_0, hfz39_1, hfz39_2, hfz39_3⟩ := ze4 BK411.out) | ((with_reducible refine zq 7 ?_); refine zg (some 27) Tryd.func7 #[.agg #[.int .i64 t393, .int .i64 t394, .int .i64 t395, .slice Ao32 y414.length co32]] ?_; (with_reducible refine (impl_VerText.calls kj2 t393 t394 t395 _ _ y414 t420 _ ?side1 ?side2 ?side3 A6.out).mono ?_); (case side1 => refine (Kd.R_reads' (e := 9) (base := w.heap.size) (ok := fun k_ => ((some k_ ≠ (.slice Ao21 t396.length co21 : Value).ownBlock ∧ (some k_ ≠ (.slice Ao25 t402.length co25 : Value).ownBlock ∧ some k_ ≠ (.slice Ao28 t408.length co28 : Value).ownBlock)) ∧ some k_ ≠ (.slice Ao37 y417.length co37 : Value).ownBlock)) (n := y414.length) (c := co32) ?_).2.2; exact (zR (Kd.R_mono (Kd.R_far (p := ⟨gb412, 3, none⟩) (Kd.R_types HO416.out BK412.out (by decide)) (fun _ hk => hk.2) (.slice Ao37 y417.length co37)) (fun _ h_ => h_.1)))); (case side2 => exact (Kd.R_reads' HO416.out).2.1); (case side3 => exact GW.below HG.out (zW HB.out)); rintro e w40 ⟨rfl, hb⟩; refine ⟨_, rfl, ?_⟩; replace HO398 := zA (Kd.R_below (zR (Kd.R_mono (Kd.R_far (p := ⟨gb412, 3, none⟩) (Kd.R_types HO398.out BK412.out (by decide)) (fun _ hk => hk.2) (.slice Ao37 y417.length co37)) (fun _ h_ => h_.1))) hb); replace HO404 := zA (Kd.R_below (zR (Kd.R_mono (Kd.R_far (p := ⟨gb412, 3, none⟩) (Kd.R_types HO404.out BK412.out (by decide)) (fun _ hk => hk.2) (.slice Ao37 y417.length co37)) (fun _ h_ => h_.1))) hb); replace HO410 := zA (Kd.R_below (zR (Kd.R_mono (Kd.R_far (p := ⟨gb412, 3, none⟩) (Kd.R_types HO410.out BK412.out (by decide)) (fun _ hk => hk.2) (.slice Ao37 y417.length co37)) (fun _ h_ => h_.1))) hb); replace HO416 := zA (Kd.R_below (zR (Kd.R_mono (Kd.R_far (p := ⟨gb412, 3, none⟩) (Kd.R_types HO416.out BK412.out (by decide)) (fun _ hk => hk.2) (.slice Ao37 y417.length co37)) (fun _ h_ => h_.1))) hb); replace HO419 := zA (Kd.R_below (zR (Kd.R_mono (Kd.R_far (p := ⟨gb412, 3, none⟩) (Kd.R_types HO419.out BK412.out (by decide)) (fun _ hk => hk.2) (.slice Ao37 y417.length co37)) (fun _ h_ => h_.1))) hb); replace BK411 := zb BK411 hb; replace BK412 := zA (blk_below (g := gb412) (o := .cells #[.int .i64 t399, .int .i64 t400, .int .i64 t401, .slice Ao37 y417.length co37] 26 (0, 0)) (by (with_reducible repeat (first | refine blk_drewN ?_ _ | refine blk_drew ?_ | refine blk_alloc ?_ _)); refine blk_put (cs := #[.int .i64 t399, .int .i64 t400, .int .i64 t401, .slice Ao25 t402.length co25]) ?_ 3 _ rfl; (with_reducible repeat (first | refine blk_drewN ?_ _ | refine blk_drew ?_ | refine blk_alloc ?_ _)); exact BK412.out) hb); replace BK413 := zb BK413 hb; replace HB := zh HB hb; (try clear hb)) | ((with_reducible refine zq 6 ?_); refine zg (some 29) Tryd.func6 #[.string ((⟨#[94]⟩ : ByteArray) ++ t420)] ?_; (with_reducible refine (impl_ParseRange.calls kj2 ((⟨#[94]⟩ : ByteArray) ++ t420) t421 t424 _ ?side1 A8.out).mono ?_); (case side1 => exact GW.below HG.out (zW HB.out)); rintro e w41 ⟨v422, rfl, ho0, hb⟩; refine ⟨_, rfl, ?_⟩; have HO423 := zA (Kd.N_lower (Kd.N_mono (ok' := fun k_ => some k_ ≠ (.slice Ao21 t396.length co21 : Value).ownBlock ∧ some k_ ≠ (.slice Ao25 t402.length co25 : Value).ownBlock ∧ some k_ ≠ (.slice Ao28 t408.length co28 : Value).ownBlock ∧ some k_ ≠ (.slice Ao32 y414.length co32 : Value).ownBlock ∧ some k_ ≠ (.slice Ao37 y417.length co37 : Value).ownBlock ∧ k_ ≠ gb411 ∧ k_ ≠ gb412 ∧ k_ ≠ gb413) ho0 (fun k_ hk_ => ⟨(Kd.fresh' (Kd.R_lt (zR HO398.out)) k_ hk_), (Kd.fresh' (Kd.R_lt (zR HO404.out)) k_ hk_), (Kd.fresh' (Kd.R_lt (zR HO410.out)) k_ hk_), (Kd.fresh' (Kd.R_lt (zR HO416.out)) k_ hk_), (Kd.fresh' (Kd.R_lt (zR HO419.out)) k_ hk_), (Kd.freshB (g := gb411) (o := .cells #[.int .i64 t393, .int .i64 t394, .int .i64 t395, .slice Ao32 y414.length co32] 26 (0, 0)) (zK BK411.out) k_ hk_), (Kd.freshB (g := gb412) (o := .cells #[.int .i64 t399, .int .i64 t400, .int .i64 t401, .slice Ao37 y417.length co37] 26 (0, 0)) (zK BK412.out) k_ hk_), (Kd.freshB (g := gb413) (o := .cells #[.int .i64 t405, .int .i64 t406, .int .i64 t407, .slice Ao28 t408.length co28] 26 (0, 0)) (zK BK413.out) k_ hk_)⟩)) (below_size (zW HB.out))); replace HO398 := zr HO398 hb; replace HO404 := zr HO404 hb; replace HO410 := zr HO410 hb; replace HO416 := zr HO416 hb; replace HO419 := zr HO419 hb; replace BK411 := zb BK411 hb; replace BK412 := zb BK412 hb; replace BK413 := zb BK413 hb; replace HB := zh HB hb; (try clear hb ho0); obtain ⟨hcz42_0, hcz42_1, hcz42_2, hcz42_3, hfz42_0, hfz42_1, hfz42_2, hfz42_3⟩ := ze4 BK411.out) | ((with_reducible refine zq 7 ?_); refine zg (some 34) Tryd.func7 #[.agg #[.int .i64 t393, .int .i64 t394, .int .i64 t395, .slice Ao32 y414.length co32]] ?_; (with_reducible refine (impl_VerText.calls kj2 t393 t394 t395 _ _ y414 t425 _ ?side1 ?side2 ?side3 A9.out).mono ?_); (case side1 => repeat (first | exact (Kd.R_reads' HO416.out).2.2 | (with_reducible refine Kd.C_alloc ?_ _) | (with_reducible refine Kd.C_drewN ?_ _) | (with_reducible refine Kd.C_drew ?_))); (case side2 => exact (Kd.R_reads' HO416.out).2.1); (case side3 => exact GW.below HG.out (zW HB.out)); rintro e w43 ⟨rfl, hb⟩; refine ⟨_, rfl, ?_⟩; replace HO398 := zr HO398 hb; replace HO404 := zr HO404 hb; replace HO410 := zr HO410 hb; replace HO416 := zr HO416 hb; replace HO419 := zr HO419 hb; replace HO423 := zA (Kd.N_below (zN HO423.out) hb); replace BK411 := zb BK411 hb; replace BK412 := zb BK412 hb; replace BK413 := zb BK413 hb; replace HB := zh HB hb; (try clear hb)) | ((with_reducible refine zq 6 ?_); refine zg (some 36) Tryd.func6 #[.string ((⟨#[126]⟩ : ByteArray) ++ t425)] ?_; (with_reducible refine (impl_ParseRange.calls kj2 ((⟨#[126]⟩ : ByteArray) ++ t425) t426 t429 _ ?side1 A11.out).mono ?_); (case side1 => exact GW.below HG.out (zW HB.out)); rintro e w44 ⟨v427, rfl, ho0, hb⟩; refine ⟨_, rfl, ?_⟩; have HO428 := zA (Kd.N_lower (Kd.N_mono (ok' := fun k_ => some k_ ≠ (.slice Ao21 t396.length co21 : Value).ownBlock ∧ some k_ ≠ (.slice Ao25 t402.length co25 : Value).ownBlock ∧ some k_ ≠ (.slice Ao28 t408.length co28 : Value).ownBlock ∧ some k_ ≠ (.slice Ao32 y414.length co32 : Value).ownBlock ∧ some k_ ≠ (.slice Ao37 y417.length co37 : Value).ownBlock ∧ some k_ ≠ (v422 : Value).ownBlock ∧ k_ ≠ gb411 ∧ k_ ≠ gb412 ∧ k_ ≠ gb413) ho0 (fun k_ hk_ => ⟨(Kd.fresh' (Kd.R_lt (zR HO398.out)) k_ hk_), (Kd.fresh' (Kd.R_lt (zR HO404.out)) k_ hk_), (Kd.fresh' (Kd.R_lt (zR HO410.out)) k_ hk_), (Kd.fresh' (Kd.R_lt (zR HO416.out)) k_ hk_), (Kd.fresh' (Kd.R_lt (zR HO419.out)) k_ hk_), (Kd.fresh' (Kd.N_lt (zN HO423.out)) k_ hk_), (Kd.freshB (g := gb411) (o := .cells #[.int .i64 t393, .int .i64 t394, .int .i64 t395, .slice Ao32 y414.length co32] 26 (0, 0)) (zK BK411.out) k_ hk_), (Kd.freshB (g := gb412) (o := .cells #[.int .i64 t399, .int .i64 t400, .int .i64 t401, .slice Ao37 y417.length co37] 26 (0, 0)) (zK BK412.out) k_ hk_), (Kd.freshB (g := gb413) (o := .cells #[.int .i64 t405, .int .i64 t406, .int .i64 t407, .slice Ao28 t408.length co28] 26 (0, 0)) (zK BK413.out) k_ hk_)⟩)) (below_size (zW HB.out))); replace HO398 := zr HO398 hb; replace HO404 := zr HO404 hb; replace HO410 := zr HO410 hb; replace HO416 := zr HO416 hb; replace HO419 := zr HO419 hb; replace HO423 := zA (Kd.N_elder' (zN HO423.out) (Kd.N_base ho0) hb); replace BK411 := zb BK411 hb; replace BK412 := zb BK412 hb; replace BK413 := zb BK413 hb; replace HB := zh HB hb; (try clear hb ho0)) | ((with_reducible refine zq 6 ?_); refine zg (some 40) Tryd.func6 #[.string (⟨#[42]⟩ : ByteArray)] ?_; (with_reducible refine (impl_ParseRange.calls kj2 (⟨#[42]⟩ : ByteArray) t430 t433 _ ?side1 A12.out).mono ?_); (case side1 => exact GW.below HG.out (zW HB.out)); rintro e w45 ⟨v431, rfl, ho0, hb⟩; refine ⟨_, rfl, ?_⟩; have HO432 := zA (Kd.N_lower (Kd.N_mono (ok' := fun k_ => some k_ ≠ (.slice Ao21 t396.length co21 : Value).ownBlock ∧ some k_ ≠ (.slice Ao25 t402.length co25 : Value).ownBlock ∧ some k_ ≠ (.slice Ao28 t408.length co28 : Value).ownBlock ∧ some k_ ≠ (.slice Ao32 y414.length co32 : Value).ownBlock ∧ some k_ ≠ (.slice Ao37 y417.length co37 : Value).ownBlock ∧ some k_ ≠ (v422 : Value).ownBlock ∧ some k_ ≠ (v427 : Value).ownBlock ∧ k_ ≠ gb411 ∧ k_ ≠ gb412 ∧ k_ ≠ gb413) ho0 (fun k_ hk_ => ⟨(Kd.fresh' (Kd.R_lt (zR HO398.out)) k_ hk_), (Kd.fresh' (Kd.R_lt (zR HO404.out)) k_ hk_), (Kd.fresh' (Kd.R_lt (zR HO410.out)) k_ hk_), (Kd.fresh' (Kd.R_lt (zR HO416.out)) k_ hk_), (Kd.fresh' (Kd.R_lt (zR HO419.out)) k_ hk_), (Kd.fresh' (Kd.N_lt (zN HO423.out)) k_ hk_), (Kd.fresh' (Kd.N_lt (zN HO428.out)) k_ hk_), (Kd.freshB (g := gb411) (o := .cells #[.int .i64 t393, .int .i64 t394, .int .i64 t395, .slice Ao32 y414.length co32] 26 (0, 0)) (zK BK411.out) k_ hk_), (Kd.freshB (g := gb412) (o := .cells #[.int .i64 t399, .int .i64 t400, .int .i64 t401, .slice Ao37 y417.length co37] 26 (0, 0)) (zK BK412.out) k_ hk_), (Kd.freshB (g := gb413) (o := .cells #[.int .i64 t405, .int .i64 t406, .int .i64 t407, .slice Ao28 t408.length co28] 26 (0, 0)) (zK BK413.out) k_ hk_)⟩)) (below_size (zW HB.out))); replace HO398 := zr HO398 hb; replace HO404 := zr HO404 hb; replace HO410 := zr HO410 hb; replace HO416 := zr HO416 hb; replace HO419 := zr HO419 hb; replace HO423 := zA (Kd.N_elder' (zN HO423.out) (Kd.N_base ho0) hb); replace HO428 := zA (Kd.N_elder' (zN HO428.out) (Kd.N_base ho0) hb); replace BK411 := zb BK411 hb; replace BK412 := zb BK412 hb; replace BK413 := zb BK413 hb; replace HB := zh HB hb; (try clear hb ho0); obtain ⟨hcz46_0, hcz46_1, hcz46_2, hcz46_3, hfz46_0, hfz46_1, hfz46_2, hfz46_3⟩ := ze4 BK411.out; obtain ⟨hcz47_0, hcz47_1, hcz47_2, hcz47_3, hfz47_0, hfz47_1, hfz47_2, hfz47_3⟩ := ze4 BK412.out))
     (try simp only [Act.put, zT])
     go_cut [12] (fun v12 wc => ∃ (kq : Nat) (x12_12 : Bool), v12 = .bool x12_12 ∧ Aside0 (laws_FnCarets.j1 kq t421 t424 t426 t429 t430 t433 x12_12 t393 t394 t395 y414 t399 t400 t401 y417 = some r) ∧ Aside0 (kq ≤ kj2) ∧ Aside0 (Kd.N (Kd.slice 57 k57) 39 wc w.heap.size (fun k_ => some k_ ≠ (v427 : Value).ownBlock ∧ some k_ ≠ (v431 : Value).ownBlock ∧ some k_ ≠ ((.slice Ao32 y414.length co32) : Value).ownBlock ∧ some k_ ≠ ((.slice Ao37 y417.length co37) : Value).ownBlock ∧ some k_ ≠ ((.slice Ao28 t408.length co28) : Value).ownBlock ∧ k_ ≠ gb411 ∧ k_ ≠ gb412 ∧ k_ ≠ gb413) v422 t421) ∧ Aside0 (Kd.N (Kd.slice 57 k57) 39 wc w.heap.size (fun k_ => some k_ ≠ (v422 : Value).ownBlock ∧ some k_ ≠ (v431 : Value).ownBlock ∧ some k_ ≠ ((.slice Ao32 y414.length co32) : Value).ownBlock ∧ some k_ ≠ ((.slice Ao37 y417.length co37) : Value).ownBlock ∧ some k_ ≠ ((.slice Ao28 t408.length co28) : Value).ownBlock ∧ k_ ≠ gb411 ∧ k_ ≠ gb412 ∧ k_ ≠ gb413) v427 t426) ∧ Aside0 (Kd.N (Kd.slice 57 k57) 39 wc w.heap.size (fun k_ => some k_ ≠ (v422 : Value).ownBlock ∧ some k_ ≠ (v427 : Value).ownBlock ∧ some k_ ≠ ((.slice Ao32 y414.length co32) : Value).ownBlock ∧ some k_ ≠ ((.slice Ao37 y417.length co37) : Value).ownBlock ∧ some k_ ≠ ((.slice Ao28 t408.length co28) : Value).ownBlock ∧ k_ ≠ gb411 ∧ k_ ≠ gb412 ∧ k_ ≠ gb413) v431 t430) ∧ Aside0 (Kd.R Kd.string 9 wc w.heap.size (fun k_ => some k_ ≠ ((.slice Ao37 y417.length co37) : Value).ownBlock ∧ some k_ ≠ ((.slice Ao28 t408.length co28) : Value).ownBlock) (.slice Ao32 y414.length co32) y414) ∧ Aside0 (Kd.R Kd.string 9 wc w.heap.size (fun k_ => some k_ ≠ ((.slice Ao32 y414.length co32) : Value).ownBlock ∧ some k_ ≠ ((.slice Ao28 t408.length co28) : Value).ownBlock) (.slice Ao37 y417.length co37) y417) ∧ Aside0 (Kd.R Kd.string 9 wc w.heap.size (fun k_ => some k_ ≠ ((.slice Ao32 y414.length co32) : Value).ownBlock ∧ some k_ ≠ ((.slice Ao37 y417.length co37) : Value).ownBlock) (.slice Ao28 t408.length co28) t408) ∧ Aside0 (wc.heap[gb411]? = some (.cells #[.int .i64 t393, .int .i64 t394, .int .i64 t395, (.slice Ao32 y414.length co32)] 26 (0, 0))) ∧ Aside0 (wc.heap[gb412]? = some (.cells #[.int .i64 t399, .int .i64 t400, .int .i64 t401, (.slice Ao37 y417.length co37)] 26 (0, 0))) ∧ Aside0 (wc.heap[gb413]? = some (.cells #[.int .i64 t405, .int .i64 t406, .int .i64 t407, (.slice Ao28 t408.length co28)] 26 (0, 0))) ∧ Aside0 (Below w.heap.size w wc))
     case first =>
      have H := HC13.out
      clear HC13
      by_cases c48 : t393 = 0
      ·rw [if_pos c48] at H
       have c48b0 : (t393 == 0) = true := beq_iff_eq.mpr c48
       have c48b1 : (t393 != 0) = false := bne_eq_false_iff_eq.mpr c48
       clear c48
       (first | rw [c48b0] | (simp only [i64_w, i32_w]; rw [c48b0]) | skip)
       by_cases c49 : t393 = t399
       ·rw [if_pos c49] at H
        have c49b0 : (t393 == t399) = true := beq_iff_eq.mpr c49
        have c49b1 : (t393 != t399) = false := bne_eq_false_iff_eq.mpr c49
        clear c49
        by_cases c50 : t394 = t400
        ·rw [if_pos c50] at H
         have c50b0 : (t394 == t400) = true := beq_iff_eq.mpr c50
         have c50b1 : (t394 != t400) = false := bne_eq_false_iff_eq.mpr c50
         clear c50
         by_cases c51 : t394 = 0
         ·rw [if_pos c51] at H
          have c51b0 : (t394 == 0) = true := beq_iff_eq.mpr c51
          have c51b1 : (t394 != 0) = false := bne_eq_false_iff_eq.mpr c51
          clear c51
          have H' := Aside0.mk H
          clear H
          have hnb52 := NB411_412.out
          have hnc52 := NB412_411.out
          have hnb53 := NB411_413.out
          have hnc53 := NB413_411.out
          obtain ⟨hcz54_0, hcz54_1, hcz54_2, hcz54_3, hfz54_0, hfz54_1, hfz54_2, hfz54_3⟩ := ze4 BK411.out
          have hnb55 := NB412_413.out
          have hnc55 := NB413_412.out
          obtain ⟨hcz56_0, hcz56_1, hcz56_2, hcz56_3, hfz56_0, hfz56_1, hfz56_2, hfz56_3⟩ := ze4 BK412.out
          go_wp2
          go_meet
          case rel => exact ⟨_, ((t395 == t401)), zS, (by first | exact H' | (subst_vars; exact H')), ⟨by have := HJ2.out; first | omega | exact Nat.le_refl _⟩, ⟨by (with_reducible repeat (first | apply Kd.N_alloc | apply Kd.N_drewN | apply Kd.N_drew)); exact Kd.N_mono HO423.out (fun _ hk => ⟨hk.1.2, ⟨hk.2, ⟨hk.1.1.2.2.2.1, ⟨hk.1.1.2.2.2.2.1, ⟨hk.1.1.2.2.1, ⟨hk.1.1.2.2.2.2.2.1, ⟨hk.1.1.2.2.2.2.2.2.1, hk.1.1.2.2.2.2.2.2.2⟩⟩⟩⟩⟩⟩⟩)⟩, ⟨by (with_reducible repeat (first | apply Kd.N_alloc | apply Kd.N_drewN | apply Kd.N_drew)); exact Kd.N_mono HO428.out (fun _ hk => ⟨hk.1.2.2.2.2.2.1, ⟨hk.2, ⟨hk.1.2.2.2.1, ⟨hk.1.2.2.2.2.1, ⟨hk.1.2.2.1, ⟨hk.1.2.2.2.2.2.2.1, ⟨hk.1.2.2.2.2.2.2.2.1, hk.1.2.2.2.2.2.2.2.2⟩⟩⟩⟩⟩⟩⟩)⟩, ⟨by (with_reducible repeat (first | apply Kd.N_alloc | apply Kd.N_drewN | apply Kd.N_drew)); exact Kd.N_mono HO432.out (fun _ hk => ⟨hk.2.2.2.2.2.1, ⟨hk.2.2.2.2.2.2.1, ⟨hk.2.2.2.1, ⟨hk.2.2.2.2.1, ⟨hk.2.2.1, ⟨hk.2.2.2.2.2.2.2.1, ⟨hk.2.2.2.2.2.2.2.2.1, hk.2.2.2.2.2.2.2.2.2⟩⟩⟩⟩⟩⟩⟩)⟩, ⟨by (with_reducible repeat (first | apply Kd.R_alloc | apply Kd.R_drewN | apply Kd.R_drew)); exact Kd.R_mono HO416.out (fun _ hk => ⟨hk.2, hk.1.2.2⟩)⟩, ⟨by (with_reducible repeat (first | apply Kd.R_alloc | apply Kd.R_drewN | apply Kd.R_drew)); exact Kd.R_mono HO419.out (fun _ hk => ⟨hk.2, hk.1.2⟩)⟩, ⟨by (with_reducible repeat (first | apply Kd.R_alloc | apply Kd.R_drewN | apply Kd.R_drew)); exact Kd.R_mono HO410.out (fun _ hk => ⟨hk.1.2.2, hk.2⟩)⟩, ⟨zK BK411.out⟩, ⟨zK BK412.out⟩, ⟨zK BK413.out⟩, ⟨zW HB.out⟩⟩
         ·rw [if_neg c51] at H
          have c51b0 : (t394 == 0) = false := beq_eq_false_iff_ne.mpr c51
          have c51b1 : (t394 != 0) = true := bne_iff_ne.mpr c51
          have H' := Aside0.mk H
          clear H
          have hnb57 := NB411_412.out
          have hnc57 := NB412_411.out
          have hnb58 := NB411_413.out
          have hnc58 := NB413_411.out
          obtain ⟨hcz59_0, hcz59_1, hcz59_2, hcz59_3, hfz59_0, hfz59_1, hfz59_2, hfz59_3⟩ := ze4 BK411.out
          have hnb60 := NB412_413.out
          have hnc60 := NB413_412.out
          obtain ⟨hcz61_0, hcz61_1, hcz61_2, hcz61_3, hfz61_0, hfz61_1, hfz61_2, hfz61_3⟩ := ze4 BK412.out
          go_wp2
          go_meet
          case rel => exact ⟨_, (true), zS, (by first | exact H' | (subst_vars; exact H')), ⟨by have := HJ2.out; first | omega | exact Nat.le_refl _⟩, ⟨by (with_reducible repeat (first | apply Kd.N_alloc | apply Kd.N_drewN | apply Kd.N_drew)); exact Kd.N_mono HO423.out (fun _ hk => ⟨hk.1.2, ⟨hk.2, ⟨hk.1.1.2.2.2.1, ⟨hk.1.1.2.2.2.2.1, ⟨hk.1.1.2.2.1, ⟨hk.1.1.2.2.2.2.2.1, ⟨hk.1.1.2.2.2.2.2.2.1, hk.1.1.2.2.2.2.2.2.2⟩⟩⟩⟩⟩⟩⟩)⟩, ⟨by (with_reducible repeat (first | apply Kd.N_alloc | apply Kd.N_drewN | apply Kd.N_drew)); exact Kd.N_mono HO428.out (fun _ hk => ⟨hk.1.2.2.2.2.2.1, ⟨hk.2, ⟨hk.1.2.2.2.1, ⟨hk.1.2.2.2.2.1, ⟨hk.1.2.2.1, ⟨hk.1.2.2.2.2.2.2.1, ⟨hk.1.2.2.2.2.2.2.2.1, hk.1.2.2.2.2.2.2.2.2⟩⟩⟩⟩⟩⟩⟩)⟩, ⟨by (with_reducible repeat (first | apply Kd.N_alloc | apply Kd.N_drewN | apply Kd.N_drew)); exact Kd.N_mono HO432.out (fun _ hk => ⟨hk.2.2.2.2.2.1, ⟨hk.2.2.2.2.2.2.1, ⟨hk.2.2.2.1, ⟨hk.2.2.2.2.1, ⟨hk.2.2.1, ⟨hk.2.2.2.2.2.2.2.1, ⟨hk.2.2.2.2.2.2.2.2.1, hk.2.2.2.2.2.2.2.2.2⟩⟩⟩⟩⟩⟩⟩)⟩, ⟨by (with_reducible repeat (first | apply Kd.R_alloc | apply Kd.R_drewN | apply Kd.R_drew)); exact Kd.R_mono HO416.out (fun _ hk => ⟨hk.2, hk.1.2.2⟩)⟩, ⟨by (with_reducible repeat (first | apply Kd.R_alloc | apply Kd.R_drewN | apply Kd.R_drew)); exact Kd.R_mono HO419.out (fun _ hk => ⟨hk.2, hk.1.2⟩)⟩, ⟨by (with_reducible repeat (first | apply Kd.R_alloc | apply Kd.R_drewN | apply Kd.R_drew)); exact Kd.R_mono HO410.out (fun _ hk => ⟨hk.1.2.2, hk.2⟩)⟩, ⟨zK BK411.out⟩, ⟨zK BK412.out⟩, ⟨zK BK413.out⟩, ⟨zW HB.out⟩⟩
        ·rw [if_neg c50] at H
         have c50b0 : (t394 == t400) = false := beq_eq_false_iff_ne.mpr c50
         have c50b1 : (t394 != t400) = true := bne_iff_ne.mpr c50
         have H' := Aside0.mk H
         clear H
         have hnb62 := NB411_412.out
         have hnc62 := NB412_411.out
         have hnb63 := NB411_413.out
         have hnc63 := NB413_411.out
         obtain ⟨hcz64_0, hcz64_1, hcz64_2, hcz64_3, hfz64_0, hfz64_1, hfz64_2, hfz64_3⟩ := ze4 BK411.out
         have hnb65 := NB412_413.out
         have hnc65 := NB413_412.out
         obtain ⟨hcz66_0, hcz66_1, hcz66_2, hcz66_3, hfz66_0, hfz66_1, hfz66_2, hfz66_3⟩ := ze4 BK412.out
         go_wp2
         go_meet
         case rel => exact ⟨_, (false), zS, (by first | exact H' | (subst_vars; exact H')), ⟨by have := HJ2.out; first | omega | exact Nat.le_refl _⟩, ⟨by (with_reducible repeat (first | apply Kd.N_alloc | apply Kd.N_drewN | apply Kd.N_drew)); exact Kd.N_mono HO423.out (fun _ hk => ⟨hk.1.2, ⟨hk.2, ⟨hk.1.1.2.2.2.1, ⟨hk.1.1.2.2.2.2.1, ⟨hk.1.1.2.2.1, ⟨hk.1.1.2.2.2.2.2.1, ⟨hk.1.1.2.2.2.2.2.2.1, hk.1.1.2.2.2.2.2.2.2⟩⟩⟩⟩⟩⟩⟩)⟩, ⟨by (with_reducible repeat (first | apply Kd.N_alloc | apply Kd.N_drewN | apply Kd.N_drew)); exact Kd.N_mono HO428.out (fun _ hk => ⟨hk.1.2.2.2.2.2.1, ⟨hk.2, ⟨hk.1.2.2.2.1, ⟨hk.1.2.2.2.2.1, ⟨hk.1.2.2.1, ⟨hk.1.2.2.2.2.2.2.1, ⟨hk.1.2.2.2.2.2.2.2.1, hk.1.2.2.2.2.2.2.2.2⟩⟩⟩⟩⟩⟩⟩)⟩, ⟨by (with_reducible repeat (first | apply Kd.N_alloc | apply Kd.N_drewN | apply Kd.N_drew)); exact Kd.N_mono HO432.out (fun _ hk => ⟨hk.2.2.2.2.2.1, ⟨hk.2.2.2.2.2.2.1, ⟨hk.2.2.2.1, ⟨hk.2.2.2.2.1, ⟨hk.2.2.1, ⟨hk.2.2.2.2.2.2.2.1, ⟨hk.2.2.2.2.2.2.2.2.1, hk.2.2.2.2.2.2.2.2.2⟩⟩⟩⟩⟩⟩⟩)⟩, ⟨by (with_reducible repeat (first | apply Kd.R_alloc | apply Kd.R_drewN | apply Kd.R_drew)); exact Kd.R_mono HO416.out (fun _ hk => ⟨hk.2, hk.1.2.2⟩)⟩, ⟨by (with_reducible repeat (first | apply Kd.R_alloc | apply Kd.R_drewN | apply Kd.R_drew)); exact Kd.R_mono HO419.out (fun _ hk => ⟨hk.2, hk.1.2⟩)⟩, ⟨by (with_reducible repeat (first | apply Kd.R_alloc | apply Kd.R_drewN | apply Kd.R_drew)); exact Kd.R_mono HO410.out (fun _ hk => ⟨hk.1.2.2, hk.2⟩)⟩, ⟨zK BK411.out⟩, ⟨zK BK412.out⟩, ⟨zK BK413.out⟩, ⟨zW HB.out⟩⟩
       ·rw [if_neg c49] at H
        have c49b0 : (t393 == t399) = false := beq_eq_false_iff_ne.mpr c49
        have c49b1 : (t393 != t399) = true := bne_iff_ne.mpr c49
        have H' := Aside0.mk H
        clear H
        go_wp2
        go_meet
        case rel => exact ⟨_, (false), zS, (by first | exact H' | (subst_vars; exact H')), ⟨by have := HJ2.out; first | omega | exact Nat.le_refl _⟩, ⟨by (with_reducible repeat (first | apply Kd.N_alloc | apply Kd.N_drewN | apply Kd.N_drew)); exact Kd.N_mono HO423.out (fun _ hk => ⟨hk.1.2, ⟨hk.2, ⟨hk.1.1.2.2.2.1, ⟨hk.1.1.2.2.2.2.1, ⟨hk.1.1.2.2.1, ⟨hk.1.1.2.2.2.2.2.1, ⟨hk.1.1.2.2.2.2.2.2.1, hk.1.1.2.2.2.2.2.2.2⟩⟩⟩⟩⟩⟩⟩)⟩, ⟨by (with_reducible repeat (first | apply Kd.N_alloc | apply Kd.N_drewN | apply Kd.N_drew)); exact Kd.N_mono HO428.out (fun _ hk => ⟨hk.1.2.2.2.2.2.1, ⟨hk.2, ⟨hk.1.2.2.2.1, ⟨hk.1.2.2.2.2.1, ⟨hk.1.2.2.1, ⟨hk.1.2.2.2.2.2.2.1, ⟨hk.1.2.2.2.2.2.2.2.1, hk.1.2.2.2.2.2.2.2.2⟩⟩⟩⟩⟩⟩⟩)⟩, ⟨by (with_reducible repeat (first | apply Kd.N_alloc | apply Kd.N_drewN | apply Kd.N_drew)); exact Kd.N_mono HO432.out (fun _ hk => ⟨hk.2.2.2.2.2.1, ⟨hk.2.2.2.2.2.2.1, ⟨hk.2.2.2.1, ⟨hk.2.2.2.2.1, ⟨hk.2.2.1, ⟨hk.2.2.2.2.2.2.2.1, ⟨hk.2.2.2.2.2.2.2.2.1, hk.2.2.2.2.2.2.2.2.2⟩⟩⟩⟩⟩⟩⟩)⟩, ⟨by (with_reducible repeat (first | apply Kd.R_alloc | apply Kd.R_drewN | apply Kd.R_drew)); exact Kd.R_mono HO416.out (fun _ hk => ⟨hk.2, hk.1.2.2⟩)⟩, ⟨by (with_reducible repeat (first | apply Kd.R_alloc | apply Kd.R_drewN | apply Kd.R_drew)); exact Kd.R_mono HO419.out (fun _ hk => ⟨hk.2, hk.1.2⟩)⟩, ⟨by (with_reducible repeat (first | apply Kd.R_alloc | apply Kd.R_drewN | apply Kd.R_drew)); exact Kd.R_mono HO410.out (fun _ hk => ⟨hk.1.2.2, hk.2⟩)⟩, ⟨zK BK411.out⟩, ⟨zK BK412.out⟩, ⟨zK BK413.out⟩, ⟨zW HB.out⟩⟩
      ·rw [if_neg c48] at H
       have c48b0 : (t393 == 0) = false := beq_eq_false_iff_ne.mpr c48
       have c48b1 : (t393 != 0) = true := bne_iff_ne.mpr c48
       (first | rw [c48b0] | (simp only [i64_w, i32_w]; rw [c48b0]) | skip)
       have H' := Aside0.mk H
       clear H
       go_wp2
       go_meet
       case rel => exact ⟨_, ((t393 == t399)), zS, (by first | exact H' | (subst_vars; exact H')), ⟨by have := HJ2.out; first | omega | exact Nat.le_refl _⟩, ⟨by (with_reducible repeat (first | apply Kd.N_alloc | apply Kd.N_drewN | apply Kd.N_drew)); exact Kd.N_mono HO423.out (fun _ hk => ⟨hk.1.2, ⟨hk.2, ⟨hk.1.1.2.2.2.1, ⟨hk.1.1.2.2.2.2.1, ⟨hk.1.1.2.2.1, ⟨hk.1.1.2.2.2.2.2.1, ⟨hk.1.1.2.2.2.2.2.2.1, hk.1.1.2.2.2.2.2.2.2⟩⟩⟩⟩⟩⟩⟩)⟩, ⟨by (with_reducible repeat (first | apply Kd.N_alloc | apply Kd.N_drewN | apply Kd.N_drew)); exact Kd.N_mono HO428.out (fun _ hk => ⟨hk.1.2.2.2.2.2.1, ⟨hk.2, ⟨hk.1.2.2.2.1, ⟨hk.1.2.2.2.2.1, ⟨hk.1.2.2.1, ⟨hk.1.2.2.2.2.2.2.1, ⟨hk.1.2.2.2.2.2.2.2.1, hk.1.2.2.2.2.2.2.2.2⟩⟩⟩⟩⟩⟩⟩)⟩, ⟨by (with_reducible repeat (first | apply Kd.N_alloc | apply Kd.N_drewN | apply Kd.N_drew)); exact Kd.N_mono HO432.out (fun _ hk => ⟨hk.2.2.2.2.2.1, ⟨hk.2.2.2.2.2.2.1, ⟨hk.2.2.2.1, ⟨hk.2.2.2.2.1, ⟨hk.2.2.1, ⟨hk.2.2.2.2.2.2.2.1, ⟨hk.2.2.2.2.2.2.2.2.1, hk.2.2.2.2.2.2.2.2.2⟩⟩⟩⟩⟩⟩⟩)⟩, ⟨by (with_reducible repeat (first | apply Kd.R_alloc | apply Kd.R_drewN | apply Kd.R_drew)); exact Kd.R_mono HO416.out (fun _ hk => ⟨hk.2, hk.1.2.2⟩)⟩, ⟨by (with_reducible repeat (first | apply Kd.R_alloc | apply Kd.R_drewN | apply Kd.R_drew)); exact Kd.R_mono HO419.out (fun _ hk => ⟨hk.2, hk.1.2⟩)⟩, ⟨by (with_reducible repeat (first | apply Kd.R_alloc | apply Kd.R_drewN | apply Kd.R_drew)); exact Kd.R_mono HO410.out (fun _ hk => ⟨hk.1.2.2, hk.2⟩)⟩, ⟨zK BK411.out⟩, ⟨zK BK412.out⟩, ⟨zK BK413.out⟩, ⟨zW HB.out⟩⟩
     case rest =>
      clear HC13
      try clear c1
      try clear c2
      try clear p2
      try clear c3
      try clear c4
      try clear c5
      try clear c6
      try clear c7
      try clear c7b0
      try clear c7b1
      try clear c7b2
      try clear c10
      try clear c10b0
      try clear c10b1
      try clear c10b2
      try clear c18
      try clear c19
      try clear c23
      try clear c48
      try clear c48b0
      try clear c48b1
      try clear c49
      try clear c49b0
      try clear c49b1
      try clear c50
      try clear c50b0
      try clear c50b1
      try clear c51
      try clear c51b0
      try clear c51b1
      try clear c52
      try clear c53
      try clear c55
      try clear c57
      try clear c58
      try clear c60
      try clear c62
      try clear c63
      try clear c65
      try clear hcz20_0
      try clear hcz20_1
      try clear hcz20_2
      try clear hcz20_3
      try clear hcz24_0
      try clear hcz24_1
      try clear hcz24_2
      try clear hcz24_3
      try clear hcz27_0
      try clear hcz27_1
      try clear hcz27_2
      try clear hcz27_3
      try clear hcz33_0
      try clear hcz33_1
      try clear hcz33_2
      try clear hcz33_3
      try clear hcz38_0
      try clear hcz38_1
      try clear hcz38_2
      try clear hcz38_3
      try clear hcz39_0
      try clear hcz39_1
      try clear hcz39_2
      try clear hcz39_3
      try clear hcz42_0
      try clear hcz42_1
      try clear hcz42_2
      try clear hcz42_3
      try clear hcz46_0
      try clear hcz46_1
      try clear hcz46_2
      try clear hcz46_3
      try clear hcz47_0
      try clear hcz47_1
      try clear hcz47_2
      try clear hcz47_3
      try clear hcz54_0
      try clear hcz54_1
      try clear hcz54_2
      try clear hcz54_3
      try clear hcz56_0
      try clear hcz56_1
      try clear hcz56_2
      try clear hcz56_3
      try clear hcz59_0
      try clear hcz59_1
      try clear hcz59_2
      try clear hcz59_3
      try clear hcz61_0
      try clear hcz61_1
      try clear hcz61_2
      try clear hcz61_3
      try clear hcz64_0
      try clear hcz64_1
      try clear hcz64_2
      try clear hcz64_3
      try clear hcz66_0
      try clear hcz66_1
      try clear hcz66_2
      try clear hcz66_3
      try clear hfz20_0
      try clear hfz20_1
      try clear hfz20_2
      try clear hfz20_3
      try clear hfz24_0
      try clear hfz24_1
      try clear hfz24_2
      try clear hfz24_3
      try clear hfz27_0
      try clear hfz27_1
      try clear hfz27_2
      try clear hfz27_3
      try clear hfz33_0
      try clear hfz33_1
      try clear hfz33_2
      try clear hfz33_3
      try clear hfz38_0
      try clear hfz38_1
      try clear hfz38_2
      try clear hfz38_3
      try clear hfz39_0
      try clear hfz39_1
      try clear hfz39_2
      try clear hfz39_3
      try clear hfz42_0
      try clear hfz42_1
      try clear hfz42_2
      try clear hfz42_3
      try clear hfz46_0
      try clear hfz46_1
      try clear hfz46_2
      try clear hfz46_3
      try clear hfz47_0
      try clear hfz47_1
      try clear hfz47_2
      try clear hfz47_3
      try clear hfz54_0
      try clear hfz54_1
      try clear hfz54_2
      try clear hfz54_3
      try clear hfz56_0
      try clear hfz56_1
      try clear hfz56_2
      try clear hfz56_3
      try clear hfz59_0
      try clear hfz59_1
      try clear hfz59_2
      try clear hfz59_3
      try clear hfz61_0
      try clear hfz61_1
      try clear hfz61_2
      try clear hfz61_3
      try clear hfz64_0
      try clear hfz64_1
      try clear hfz64_2
      try clear hfz64_3
      try clear hfz66_0
      try clear hfz66_1
      try clear hfz66_2
      try clear hfz66_3
      try clear p2
      obtain ⟨kq, x12_12, rfl, HA, HJ12, HO_6, HO_8, HO_10, HO_412003, HO_413003, HO_414003, BK411, BK412, BK413, HB⟩ := hcut
      cases kq with
      | zero => exact absurd HA.out (by simp [laws_FnCarets.j1])
      | succ kj12 =>
       have H := HA.out
       clear HA
       simp only [laws_FnCarets.j1] at H
       by_cases c67 : t424 = true
       ·subst c67
        rw [if_pos rfl] at H
        by_cases c68 : t429 = true
        ·subst c68
         rw [if_pos rfl] at H
         by_cases c69 : t433 = true
         ·subst c69
          rw [if_pos rfl] at H
          replace H := Option.bind_eq_some_iff.mp H
          obtain ⟨t434, A700, H⟩ := H
          try dsimp only at H
          have A70 := Aside0.mk A700
          clear A700
          by_cases c71 : t434 = true
          ·subst c71
           rw [if_pos rfl] at H
           replace H := Option.bind_eq_some_iff.mp H
           obtain ⟨t435, A720, H⟩ := H
           try dsimp only at H
           have A72 := Aside0.mk A720
           clear A720
           by_cases c73 : t435 = true
           ·subst c73
            rw [if_pos rfl] at H
            replace H := Option.bind_eq_some_iff.mp H
            obtain ⟨t436, A740, H⟩ := H
            try dsimp only at H
            have A74 := Aside0.mk A740
            clear A740
            by_cases c75 : t436 = true
            ·subst c75
             rw [if_pos rfl] at H
             replace H := Option.bind_eq_some_iff.mp H
             obtain ⟨t437, A760, H⟩ := H
             try dsimp only at H
             have A76 := Aside0.mk A760
             clear A760
             by_cases c77 : x12_12 = true
             ·subst c77
              rw [if_pos rfl] at H
              replace H := Option.bind_eq_some_iff.mp H
              obtain ⟨t438, A780, H⟩ := H
              try dsimp only at H
              have A78 := Aside0.mk A780
              clear A780
              by_cases c79 : (t437 == (!t438)) = true
              ·rw [if_pos c79] at H
               have c79b0 : (t437 == (!t438)) = true := c79
               (try (have c79b1 : decide (t437 = (!t438)) = true := by simpa using c79))
               (try (have c79b2 : (t437 == (!t438)) = true := by simpa using c79))
               clear c79
               replace H := Option.bind_eq_some_iff.mp H
               obtain ⟨t439, A800, H⟩ := H
               try dsimp only at H
               have A80 := Aside0.mk A800
               clear A800
               by_cases c81 : t393 = t399
               ·rw [if_pos c81] at H
                have c81b0 : (t393 == t399) = true := beq_iff_eq.mpr c81
                have c81b1 : (t393 != t399) = false := bne_eq_false_iff_eq.mpr c81
                clear c81
                by_cases c82 : t394 = t400
                ·rw [if_pos c82] at H
                 have c82b0 : (t394 == t400) = true := beq_iff_eq.mpr c82
                 have c82b1 : (t394 != t400) = false := bne_eq_false_iff_eq.mpr c82
                 clear c82
                 replace H := Option.bind_eq_some_iff.mp H
                 obtain ⟨t440, A830, H⟩ := H
                 try dsimp only at H
                 have A83 := Aside0.mk A830
                 clear A830
                 obtain rfl := Option.some.inj H
                 try go_wp2
                 replace HO_6 := zA (Kd.N_drew HO_6.out)
                 replace HO_8 := zA (Kd.N_drew HO_8.out)
                 replace HO_10 := zA (Kd.N_drew HO_10.out)
                 replace HO_412003 := zA (Kd.R_drew HO_412003.out)
                 replace HO_413003 := zA (Kd.R_drew HO_413003.out)
                 replace HO_414003 := zA (Kd.R_drew HO_414003.out)
                 replace BK411 := zA (blk_drew BK411.out)
                 replace BK412 := zA (blk_drew BK412.out)
                 replace BK413 := zA (blk_drew BK413.out)
                 replace HB := zA (below_drew1 HB.out)
                 obtain ⟨Ao85, co85, eo85⟩ := Kd.N_slice HO_10.out
                 (first | subst eo85 | (injection eo85 with f1_ f2_ f3_; have f4_ := f1_.symm; have f5_ := f3_.symm; clear f1_ f2_ f3_; subst f4_; subst f5_))
                 refine start_ (n := 60) (S := fun w' => w'.cell? ⟨gb412, 0, none⟩ = some (.int .i64 t399) ∧ w'.cell? ⟨gb412, 1, none⟩ = some (.int .i64 t400) ∧ w'.cell? ⟨gb412, 2, none⟩ = some (.int .i64 t401) ∧ w'.cell? ⟨gb412, 3, none⟩ = some (.slice Ao37 y417.length co37) ∧ w'.cell? ⟨gb411, 0, none⟩ = some (.int .i64 t393) ∧ w'.cell? ⟨gb411, 1, none⟩ = some (.int .i64 t394) ∧ w'.cell? ⟨gb411, 2, none⟩ = some (.int .i64 t395) ∧ w'.cell? ⟨gb411, 3, none⟩ = some (.slice Ao32 y414.length co32)) (ds := []) (Array.replicate 60 false) (by kernel_rfl) rfl rfl ⟨(blk_cell BK412.out 0).trans rfl, (blk_cell BK412.out 1).trans rfl, (blk_cell BK412.out 2).trans rfl, (blk_cell BK412.out 3).trans rfl, (blk_cell BK411.out 0).trans rfl, (blk_cell BK411.out 1).trans rfl, (blk_cell BK411.out 2).trans rfl, (blk_cell BK411.out 3).trans rfl⟩ (fun hHeld => ?_); refine with_tabW laws_FnCarets.tab12 laws_FnCarets.bits12 (fun HT_ HW_ => ?_)
                 generalize wc.drew = w84 at HO_6 HO_8 HO_10 HO_412003 HO_413003 HO_414003 BK411 BK412 BK413 HB hHeld ⊢
                 refine zp 0 71 ?_
                 refine zp 1 72 ?_
                 refine zp 2 73 ?_
                 refine zp 3 74 ?_
                 refine zp 4 75 ?_
                 refine zp 5 76 ?_
                 refine zp 6 77 ?_
                 refine zp 7 78 ?_
                 refine zp 8 79 ?_
                 refine zt 9 80 ?_
                 refine zo 10 (some 81) fun K hK => ?_
                 refine goes_ Tryd.func8 (by kernel_rfl) rfl #[.slice Ao85 t430.length co85, .agg #[.int .i64 t399, .int .i64 t400, .int .i64 t401, .slice Ao37 y417.length co37]] (by rfl) rfl rfl zM ?_
                 with_reducible refine (impl_InRange.calls kj12 _ _ t430 t399 t400 t401 _ _ y417 true _ ?side1 ?side2 ?side3 ?side4 A70.out).mono ?_
                 (case side1 => repeat (first | exact (Kd.N_reads' HO_10.out).2.2 | (with_reducible refine Kd.C_alloc ?_ _) | (with_reducible refine Kd.C_drewN ?_ _) | (with_reducible refine Kd.C_drew ?_)))
                 (case side2 => exact (Kd.N_reads' HO_10.out).2.1)
                 (case side3 => repeat (first | exact (Kd.R_reads' HO_413003.out).2.2 | (with_reducible refine Kd.C_alloc ?_ _) | (with_reducible refine Kd.C_drewN ?_ _) | (with_reducible refine Kd.C_drew ?_)))
                 (case side4 => exact (Kd.R_reads' HO_413003.out).2.1)
                 rintro e w86 ⟨rfl, hb⟩
                 refine ⟨_, rfl, ?_⟩
                 replace HO_6 := zA (Kd.N_below (zN HO_6.out) hb)
                 replace HO_8 := zA (Kd.N_below (zN HO_8.out) hb)
                 replace HO_10 := zA (Kd.N_below (zN HO_10.out) hb)
                 replace HO_412003 := zr HO_412003 hb
                 replace HO_413003 := zr HO_413003 hb
                 replace HO_414003 := zr HO_414003 hb
                 replace BK411 := zb BK411 hb
                 replace BK412 := zb BK412 hb
                 replace BK413 := zb BK413 hb
                 replace HB := zh HB hb
                 (try clear hb)
                 obtain ⟨Ao87, co87, eo87⟩ := Kd.N_slice HO_6.out
                 (first | subst eo87 | (injection eo87 with f1_ f2_ f3_; have f4_ := f1_.symm; have f5_ := f3_.symm; clear f1_ f2_ f3_; subst f4_; subst f5_))
                 refine hK.out _ _ ⟨(blk_cell BK412.out 0).trans rfl, (blk_cell BK412.out 1).trans rfl, (blk_cell BK412.out 2).trans rfl, (blk_cell BK412.out 3).trans rfl, (blk_cell BK411.out 0).trans rfl, (blk_cell BK411.out 1).trans rfl, (blk_cell BK411.out 2).trans rfl, (blk_cell BK411.out 3).trans rfl⟩ (fun hHeld => ?_)
                 clear hK K
                 refine zn ?_
                 refine zp 11 82 ?_
                 refine zp 12 83 ?_
                 refine zp 13 84 ?_
                 refine zt 14 85 ?_
                 refine zo 15 (some 86) fun K hK => ?_
                 refine goes_ Tryd.func8 (by kernel_rfl) rfl #[.slice Ao87 t421.length co87, .agg #[.int .i64 t393, .int .i64 t394, .int .i64 t395, .slice Ao32 y414.length co32]] (by rfl) rfl rfl zM ?_
                 with_reducible refine (impl_InRange.calls kj12 _ _ t421 t393 t394 t395 _ _ y414 true _ ?side1 ?side2 ?side3 ?side4 A72.out).mono ?_
                 (case side1 => repeat (first | exact (Kd.N_reads' HO_6.out).2.2 | (with_reducible refine Kd.C_alloc ?_ _) | (with_reducible refine Kd.C_drewN ?_ _) | (with_reducible refine Kd.C_drew ?_)))
                 (case side2 => exact (Kd.N_reads' HO_6.out).2.1)
                 (case side3 => repeat (first | exact (Kd.R_reads' HO_412003.out).2.2 | (with_reducible refine Kd.C_alloc ?_ _) | (with_reducible refine Kd.C_drewN ?_ _) | (with_reducible refine Kd.C_drew ?_)))
                 (case side4 => exact (Kd.R_reads' HO_412003.out).2.1)
                 rintro e w88 ⟨rfl, hb⟩
                 refine ⟨_, rfl, ?_⟩
                 replace HO_6 := zA (Kd.N_below (zN HO_6.out) hb)
                 replace HO_8 := zA (Kd.N_below (zN HO_8.out) hb)
                 replace HO_10 := zA (Kd.N_below (zN HO_10.out) hb)
                 replace HO_412003 := zr HO_412003 hb
                 replace HO_413003 := zr HO_413003 hb
                 replace HO_414003 := zr HO_414003 hb
                 replace BK411 := zb BK411 hb
                 replace BK412 := zb BK412 hb
                 replace BK413 := zb BK413 hb
                 replace HB := zh HB hb
                 (try clear hb)
                 obtain ⟨Ao89, co89, eo89⟩ := Kd.N_slice HO_8.out
                 (first | subst eo89 | (injection eo89 with f1_ f2_ f3_; have f4_ := f1_.symm; have f5_ := f3_.symm; clear f1_ f2_ f3_; subst f4_; subst f5_))
                 refine hK.out _ _ ⟨(blk_cell BK412.out 0).trans rfl, (blk_cell BK412.out 1).trans rfl, (blk_cell BK412.out 2).trans rfl, (blk_cell BK412.out 3).trans rfl, (blk_cell BK411.out 0).trans rfl, (blk_cell BK411.out 1).trans rfl, (blk_cell BK411.out 2).trans rfl, (blk_cell BK411.out 3).trans rfl⟩ (fun hHeld => ?_)
                 clear hK K
                 refine zn ?_
                 refine zp 16 87 ?_
                 refine zp 17 88 ?_
                 refine zp 18 89 ?_
                 refine zt 19 90 ?_
                 refine zo 20 (some 91) fun K hK => ?_
                 refine goes_ Tryd.func8 (by kernel_rfl) rfl #[.slice Ao89 t426.length co89, .agg #[.int .i64 t393, .int .i64 t394, .int .i64 t395, .slice Ao32 y414.length co32]] (by rfl) rfl rfl zM ?_
                 with_reducible refine (impl_InRange.calls kj12 _ _ t426 t393 t394 t395 _ _ y414 true _ ?side1 ?side2 ?side3 ?side4 A74.out).mono ?_
                 (case side1 => repeat (first | exact (Kd.N_reads' HO_8.out).2.2 | (with_reducible refine Kd.C_alloc ?_ _) | (with_reducible refine Kd.C_drewN ?_ _) | (with_reducible refine Kd.C_drew ?_)))
                 (case side2 => exact (Kd.N_reads' HO_8.out).2.1)
                 (case side3 => repeat (first | exact (Kd.R_reads' HO_412003.out).2.2 | (with_reducible refine Kd.C_alloc ?_ _) | (with_reducible refine Kd.C_drewN ?_ _) | (with_reducible refine Kd.C_drew ?_)))
                 (case side4 => exact (Kd.R_reads' HO_412003.out).2.1)
                 rintro e w90 ⟨rfl, hb⟩
                 refine ⟨_, rfl, ?_⟩
                 replace HO_6 := zA (Kd.N_below (zN HO_6.out) hb)
                 replace HO_8 := zA (Kd.N_below (zN HO_8.out) hb)
                 replace HO_10 := zA (Kd.N_below (zN HO_10.out) hb)
                 replace HO_412003 := zr HO_412003 hb
                 replace HO_413003 := zr HO_413003 hb
                 replace HO_414003 := zr HO_414003 hb
                 replace BK411 := zb BK411 hb
                 replace BK412 := zb BK412 hb
                 replace BK413 := zb BK413 hb
                 replace HB := zh HB hb
                 (try clear hb)
                 refine hK.out _ _ ⟨(blk_cell BK412.out 0).trans rfl, (blk_cell BK412.out 1).trans rfl, (blk_cell BK412.out 2).trans rfl, (blk_cell BK412.out 3).trans rfl, (blk_cell BK411.out 0).trans rfl, (blk_cell BK411.out 1).trans rfl, (blk_cell BK411.out 2).trans rfl, (blk_cell BK411.out 3).trans rfl⟩ (fun hHeld => ?_)
                 clear hK K
                 refine zn ?_
                 refine zp 21 92 ?_
                 refine zp 22 93 ?_
                 refine zp 23 94 ?_
                 refine zp 26 97 ?_
                 refine zt 24 95 ?_
                 refine zo 25 (some 96) fun K hK => ?_
                 refine goes_ Tryd.func8 (by kernel_rfl) rfl #[.slice Ao87 t421.length co87, .agg #[.int .i64 t399, .int .i64 t400, .int .i64 t401, .slice Ao37 y417.length co37]] (by rfl) rfl rfl zM ?_
                 with_reducible refine (impl_InRange.calls kj12 _ _ t421 t399 t400 t401 _ _ y417 t437 _ ?side1 ?side2 ?side3 ?side4 A76.out).mono ?_
                 (case side1 => repeat (first | exact (Kd.N_reads' HO_6.out).2.2 | (with_reducible refine Kd.C_alloc ?_ _) | (with_reducible refine Kd.C_drewN ?_ _) | (with_reducible refine Kd.C_drew ?_)))
                 (case side2 => exact (Kd.N_reads' HO_6.out).2.1)
                 (case side3 => repeat (first | exact (Kd.R_reads' HO_413003.out).2.2 | (with_reducible refine Kd.C_alloc ?_ _) | (with_reducible refine Kd.C_drewN ?_ _) | (with_reducible refine Kd.C_drew ?_)))
                 (case side4 => exact (Kd.R_reads' HO_413003.out).2.1)
                 rintro e w91 ⟨rfl, hb⟩
                 refine ⟨_, rfl, ?_⟩
                 replace HO_6 := zA (Kd.N_below (zN HO_6.out) hb)
                 replace HO_8 := zA (Kd.N_below (zN HO_8.out) hb)
                 replace HO_10 := zA (Kd.N_below (zN HO_10.out) hb)
                 replace HO_412003 := zr HO_412003 hb
                 replace HO_413003 := zr HO_413003 hb
                 replace HO_414003 := zr HO_414003 hb
                 replace BK411 := zb BK411 hb
                 replace BK412 := zb BK412 hb
                 replace BK413 := zb BK413 hb
                 replace HB := zh HB hb
                 (try clear hb)
                 refine hK.out _ _ ⟨(blk_cell BK412.out 0).trans rfl, (blk_cell BK412.out 1).trans rfl, (blk_cell BK412.out 2).trans rfl, (blk_cell BK412.out 3).trans rfl, (blk_cell BK411.out 0).trans rfl, (blk_cell BK411.out 1).trans rfl, (blk_cell BK411.out 2).trans rfl, (blk_cell BK411.out 3).trans rfl⟩ (fun hHeld => ?_)
                 clear hK K
                 refine zn ?_
                 refine zp 27 98 ?_
                 refine zt 28 99 ?_
                 refine zt 29 100 ?_
                 refine zo 30 (some 101) fun K hK => ?_
                 refine goes_ Tryd.func9 (by kernel_rfl) rfl #[.agg #[.int .i64 t399, .int .i64 t400, .int .i64 t401, .slice Ao37 y417.length co37], .agg #[.int .i64 t393, .int .i64 t394, .int .i64 t395, .slice Ao32 y414.length co32]] (by rfl) rfl rfl zM ?_
                 with_reducible refine (impl_LessVer.calls kj12 t399 t400 t401 _ _ y417 t393 t394 t395 _ _ y414 t438 _ ?side1 ?side2 ?side3 ?side4 A78.out).mono ?_
                 (case side1 => repeat (first | exact (Kd.R_reads' HO_413003.out).2.2 | (with_reducible refine Kd.C_alloc ?_ _) | (with_reducible refine Kd.C_drewN ?_ _) | (with_reducible refine Kd.C_drew ?_)))
                 (case side2 => exact (Kd.R_reads' HO_413003.out).2.1)
                 (case side3 => repeat (first | exact (Kd.R_reads' HO_412003.out).2.2 | (with_reducible refine Kd.C_alloc ?_ _) | (with_reducible refine Kd.C_drewN ?_ _) | (with_reducible refine Kd.C_drew ?_)))
                 (case side4 => exact (Kd.R_reads' HO_412003.out).2.1)
                 rintro e w92 ⟨rfl, hb⟩
                 refine ⟨_, rfl, ?_⟩
                 replace HO_6 := zA (Kd.N_below (zN HO_6.out) hb)
                 replace HO_8 := zA (Kd.N_below (zN HO_8.out) hb)
                 replace HO_10 := zA (Kd.N_below (zN HO_10.out) hb)
                 replace HO_412003 := zr HO_412003 hb
                 replace HO_413003 := zr HO_413003 hb
                 replace HO_414003 := zr HO_414003 hb
                 replace BK411 := zb BK411 hb
                 replace BK412 := zb BK412 hb
                 replace BK413 := zb BK413 hb
                 replace HB := zh HB hb
                 (try clear hb)
                 refine hK.out _ _ ⟨(blk_cell BK412.out 0).trans rfl, (blk_cell BK412.out 1).trans rfl, (blk_cell BK412.out 2).trans rfl, (blk_cell BK412.out 3).trans rfl, (blk_cell BK411.out 0).trans rfl, (blk_cell BK411.out 1).trans rfl, (blk_cell BK411.out 2).trans rfl, (blk_cell BK411.out 3).trans rfl⟩ (fun hHeld => ?_)
                 clear hK K
                 refine zn ?_
                 refine zp 31 102 ?_
                 refine zp 32 103 ?_
                 refine zp 33 104 ?_
                 refine zp 34 105 ?_
                 refine zp 35 106 ?_
                 refine zp 36 107 ?_
                 refine zp 39 110 ?_
                 refine zp 41 112 ?_
                 refine zt 37 108 ?_
                 refine zt 40 111 ?_
                 refine zt 42 113 ?_
                 refine zp 43 114 ?_
                 refine zo 38 (some 109) fun K hK => ?_
                 refine goes_ Tryd.func8 (by kernel_rfl) rfl #[.slice Ao89 t426.length co89, .agg #[.int .i64 t399, .int .i64 t400, .int .i64 t401, .slice Ao37 y417.length co37]] (by rfl) rfl rfl zM ?_
                 with_reducible refine (impl_InRange.calls kj12 _ _ t426 t399 t400 t401 _ _ y417 t439 _ ?side1 ?side2 ?side3 ?side4 A80.out).mono ?_
                 (case side1 => repeat (first | exact (Kd.N_reads' HO_8.out).2.2 | (with_reducible refine Kd.C_alloc ?_ _) | (with_reducible refine Kd.C_drewN ?_ _) | (with_reducible refine Kd.C_drew ?_)))
                 (case side2 => exact (Kd.N_reads' HO_8.out).2.1)
                 (case side3 => repeat (first | exact (Kd.R_reads' HO_413003.out).2.2 | (with_reducible refine Kd.C_alloc ?_ _) | (with_reducible refine Kd.C_drewN ?_ _) | (with_reducible refine Kd.C_drew ?_)))
                 (case side4 => exact (Kd.R_reads' HO_413003.out).2.1)
                 rintro e w93 ⟨rfl, hb⟩
                 refine ⟨_, rfl, ?_⟩
                 replace HO_6 := zA (Kd.N_below (zN HO_6.out) hb)
                 replace HO_8 := zA (Kd.N_below (zN HO_8.out) hb)
                 replace HO_10 := zA (Kd.N_below (zN HO_10.out) hb)
                 replace HO_412003 := zr HO_412003 hb
                 replace HO_413003 := zr HO_413003 hb
                 replace HO_414003 := zr HO_414003 hb
                 replace BK411 := zb BK411 hb
                 replace BK412 := zb BK412 hb
                 replace BK413 := zb BK413 hb
                 replace HB := zh HB hb
                 (try clear hb)
                 refine hK.out _ _ ⟨(blk_cell BK412.out 0).trans rfl, (blk_cell BK412.out 1).trans rfl, (blk_cell BK412.out 2).trans rfl, (blk_cell BK412.out 3).trans rfl, (blk_cell BK411.out 0).trans rfl, (blk_cell BK411.out 1).trans rfl, (blk_cell BK411.out 2).trans rfl, (blk_cell BK411.out 3).trans rfl⟩ (fun hHeld => ?_)
                 clear hK K
                 refine zn ?_
                 refine zp 44 115 ?_
                 refine zp 45 116 ?_
                 refine zp 47 118 ?_
                 refine zt 46 117 ?_
                 refine zt 48 119 ?_
                 refine zp 49 120 ?_
                 refine zp 50 121 ?_
                 refine zp 51 122 ?_
                 refine zt 52 123 ?_
                 refine zt 53 124 ?_
                 refine zo 54 (some 125) fun K hK => ?_
                 refine goes_ Tryd.func9 (by kernel_rfl) rfl #[.agg #[.int .i64 t399, .int .i64 t400, .int .i64 t401, .slice Ao37 y417.length co37], .agg #[.int .i64 t393, .int .i64 t394, .int .i64 t395, .slice Ao32 y414.length co32]] (by rfl) rfl rfl zM ?_
                 with_reducible refine (impl_LessVer.calls kj12 t399 t400 t401 _ _ y417 t393 t394 t395 _ _ y414 t440 _ ?side1 ?side2 ?side3 ?side4 A83.out).mono ?_
                 (case side1 => repeat (first | exact (Kd.R_reads' HO_413003.out).2.2 | (with_reducible refine Kd.C_alloc ?_ _) | (with_reducible refine Kd.C_drewN ?_ _) | (with_reducible refine Kd.C_drew ?_)))
                 (case side2 => exact (Kd.R_reads' HO_413003.out).2.1)
                 (case side3 => repeat (first | exact (Kd.R_reads' HO_412003.out).2.2 | (with_reducible refine Kd.C_alloc ?_ _) | (with_reducible refine Kd.C_drewN ?_ _) | (with_reducible refine Kd.C_drew ?_)))
                 (case side4 => exact (Kd.R_reads' HO_412003.out).2.1)
                 rintro e w94 ⟨rfl, hb⟩
                 refine ⟨_, rfl, ?_⟩
                 replace HO_6 := zA (Kd.N_below (zN HO_6.out) hb)
                 replace HO_8 := zA (Kd.N_below (zN HO_8.out) hb)
                 replace HO_10 := zA (Kd.N_below (zN HO_10.out) hb)
                 replace HO_412003 := zr HO_412003 hb
                 replace HO_413003 := zr HO_413003 hb
                 replace HO_414003 := zr HO_414003 hb
                 replace BK411 := zb BK411 hb
                 replace BK412 := zb BK412 hb
                 replace BK413 := zb BK413 hb
                 replace HB := zh HB hb
                 (try clear hb)
                 refine hK.out _ _ ⟨(blk_cell BK412.out 0).trans rfl, (blk_cell BK412.out 1).trans rfl, (blk_cell BK412.out 2).trans rfl, (blk_cell BK412.out 3).trans rfl, (blk_cell BK411.out 0).trans rfl, (blk_cell BK411.out 1).trans rfl, (blk_cell BK411.out 2).trans rfl, (blk_cell BK411.out 3).trans rfl⟩ (fun hHeld => ?_)
                 clear hK K
                 refine zn ?_
                 refine zp 55 126 ?_
                 refine zp 56 127 ?_
                 refine zp 57 128 ?_
                 refine zp 58 129 ?_
                 refine zp 59 2 ?_
                 refine done_ (done_of HT_.out (by kernel_rfl)) ?_
                 try go_wp2
                 go_ret
                 exact ⟨zE, zW HB.out⟩
                ·rw [if_neg c82] at H
                 have c82b0 : (t394 == t400) = false := beq_eq_false_iff_ne.mpr c82
                 have c82b1 : (t394 != t400) = true := bne_iff_ne.mpr c82
                 obtain rfl := Option.some.inj H
                 try go_wp2
                 replace HO_6 := zA (Kd.N_drew HO_6.out)
                 replace HO_8 := zA (Kd.N_drew HO_8.out)
                 replace HO_10 := zA (Kd.N_drew HO_10.out)
                 replace HO_412003 := zA (Kd.R_drew HO_412003.out)
                 replace HO_413003 := zA (Kd.R_drew HO_413003.out)
                 replace HO_414003 := zA (Kd.R_drew HO_414003.out)
                 replace BK411 := zA (blk_drew BK411.out)
                 replace BK412 := zA (blk_drew BK412.out)
                 replace BK413 := zA (blk_drew BK413.out)
                 replace HB := zA (below_drew1 HB.out)
                 obtain ⟨Ao96, co96, eo96⟩ := Kd.N_slice HO_10.out
                 (first | subst eo96 | (injection eo96 with f1_ f2_ f3_; have f4_ := f1_.symm; have f5_ := f3_.symm; clear f1_ f2_ f3_; subst f4_; subst f5_))
                 refine start_ (n := 60) (S := fun w' => w'.cell? ⟨gb412, 0, none⟩ = some (.int .i64 t399) ∧ w'.cell? ⟨gb412, 1, none⟩ = some (.int .i64 t400) ∧ w'.cell? ⟨gb412, 2, none⟩ = some (.int .i64 t401) ∧ w'.cell? ⟨gb412, 3, none⟩ = some (.slice Ao37 y417.length co37) ∧ w'.cell? ⟨gb411, 0, none⟩ = some (.int .i64 t393) ∧ w'.cell? ⟨gb411, 1, none⟩ = some (.int .i64 t394) ∧ w'.cell? ⟨gb411, 2, none⟩ = some (.int .i64 t395) ∧ w'.cell? ⟨gb411, 3, none⟩ = some (.slice Ao32 y414.length co32)) (ds := []) (Array.replicate 60 false) (by kernel_rfl) rfl rfl ⟨(blk_cell BK412.out 0).trans rfl, (blk_cell BK412.out 1).trans rfl, (blk_cell BK412.out 2).trans rfl, (blk_cell BK412.out 3).trans rfl, (blk_cell BK411.out 0).trans rfl, (blk_cell BK411.out 1).trans rfl, (blk_cell BK411.out 2).trans rfl, (blk_cell BK411.out 3).trans rfl⟩ (fun hHeld => ?_); refine with_tabW laws_FnCarets.tab12 laws_FnCarets.bits12 (fun HT_ HW_ => ?_)
                 generalize wc.drew = w95 at HO_6 HO_8 HO_10 HO_412003 HO_413003 HO_414003 BK411 BK412 BK413 HB hHeld ⊢
                 refine zp 0 71 ?_
                 refine zp 1 72 ?_
                 refine zp 2 73 ?_
                 refine zp 3 74 ?_
                 refine zp 4 75 ?_
                 refine zp 5 76 ?_
                 refine zp 6 77 ?_
                 refine zp 7 78 ?_
                 refine zp 8 79 ?_
                 refine zt 9 80 ?_
                 refine zo 10 (some 81) fun K hK => ?_
                 refine goes_ Tryd.func8 (by kernel_rfl) rfl #[.slice Ao96 t430.length co96, .agg #[.int .i64 t399, .int .i64 t400, .int .i64 t401, .slice Ao37 y417.length co37]] (by rfl) rfl rfl zM ?_
                 with_reducible refine (impl_InRange.calls kj12 _ _ t430 t399 t400 t401 _ _ y417 true _ ?side1 ?side2 ?side3 ?side4 A70.out).mono ?_
                 (case side1 => repeat (first | exact (Kd.N_reads' HO_10.out).2.2 | (with_reducible refine Kd.C_alloc ?_ _) | (with_reducible refine Kd.C_drewN ?_ _) | (with_reducible refine Kd.C_drew ?_)))
                 (case side2 => exact (Kd.N_reads' HO_10.out).2.1)
                 (case side3 => repeat (first | exact (Kd.R_reads' HO_413003.out).2.2 | (with_reducible refine Kd.C_alloc ?_ _) | (with_reducible refine Kd.C_drewN ?_ _) | (with_reducible refine Kd.C_drew ?_)))
                 (case side4 => exact (Kd.R_reads' HO_413003.out).2.1)
                 rintro e w97 ⟨rfl, hb⟩
                 refine ⟨_, rfl, ?_⟩
                 replace HO_6 := zA (Kd.N_below (zN HO_6.out) hb)
                 replace HO_8 := zA (Kd.N_below (zN HO_8.out) hb)
                 replace HO_10 := zA (Kd.N_below (zN HO_10.out) hb)
                 replace HO_412003 := zr HO_412003 hb
                 replace HO_413003 := zr HO_413003 hb
                 replace HO_414003 := zr HO_414003 hb
                 replace BK411 := zb BK411 hb
                 replace BK412 := zb BK412 hb
                 replace BK413 := zb BK413 hb
                 replace HB := zh HB hb
                 (try clear hb)
                 obtain ⟨Ao98, co98, eo98⟩ := Kd.N_slice HO_6.out
                 (first | subst eo98 | (injection eo98 with f1_ f2_ f3_; have f4_ := f1_.symm; have f5_ := f3_.symm; clear f1_ f2_ f3_; subst f4_; subst f5_))
                 refine hK.out _ _ ⟨(blk_cell BK412.out 0).trans rfl, (blk_cell BK412.out 1).trans rfl, (blk_cell BK412.out 2).trans rfl, (blk_cell BK412.out 3).trans rfl, (blk_cell BK411.out 0).trans rfl, (blk_cell BK411.out 1).trans rfl, (blk_cell BK411.out 2).trans rfl, (blk_cell BK411.out 3).trans rfl⟩ (fun hHeld => ?_)
                 clear hK K
                 refine zn ?_
                 refine zp 11 82 ?_
                 refine zp 12 83 ?_
                 refine zp 13 84 ?_
                 refine zt 14 85 ?_
                 refine zo 15 (some 86) fun K hK => ?_
                 refine goes_ Tryd.func8 (by kernel_rfl) rfl #[.slice Ao98 t421.length co98, .agg #[.int .i64 t393, .int .i64 t394, .int .i64 t395, .slice Ao32 y414.length co32]] (by rfl) rfl rfl zM ?_
                 with_reducible refine (impl_InRange.calls kj12 _ _ t421 t393 t394 t395 _ _ y414 true _ ?side1 ?side2 ?side3 ?side4 A72.out).mono ?_
                 (case side1 => repeat (first | exact (Kd.N_reads' HO_6.out).2.2 | (with_reducible refine Kd.C_alloc ?_ _) | (with_reducible refine Kd.C_drewN ?_ _) | (with_reducible refine Kd.C_drew ?_)))
                 (case side2 => exact (Kd.N_reads' HO_6.out).2.1)
                 (case side3 => repeat (first | exact (Kd.R_reads' HO_412003.out).2.2 | (with_reducible refine Kd.C_alloc ?_ _) | (with_reducible refine Kd.C_drewN ?_ _) | (with_reducible refine Kd.C_drew ?_)))
                 (case side4 => exact (Kd.R_reads' HO_412003.out).2.1)
                 rintro e w99 ⟨rfl, hb⟩
                 refine ⟨_, rfl, ?_⟩
                 replace HO_6 := zA (Kd.N_below (zN HO_6.out) hb)
                 replace HO_8 := zA (Kd.N_below (zN HO_8.out) hb)
                 replace HO_10 := zA (Kd.N_below (zN HO_10.out) hb)
                 replace HO_412003 := zr HO_412003 hb
                 replace HO_413003 := zr HO_413003 hb
                 replace HO_414003 := zr HO_414003 hb
                 replace BK411 := zb BK411 hb
                 replace BK412 := zb BK412 hb
                 replace BK413 := zb BK413 hb
                 replace HB := zh HB hb
                 (try clear hb)
                 obtain ⟨Ao100, co100, eo100⟩ := Kd.N_slice HO_8.out
                 (first | subst eo100 | (injection eo100 with f1_ f2_ f3_; have f4_ := f1_.symm; have f5_ := f3_.symm; clear f1_ f2_ f3_; subst f4_; subst f5_))
                 refine hK.out _ _ ⟨(blk_cell BK412.out 0).trans rfl, (blk_cell BK412.out 1).trans rfl, (blk_cell BK412.out 2).trans rfl, (blk_cell BK412.out 3).trans rfl, (blk_cell BK411.out 0).trans rfl, (blk_cell BK411.out 1).trans rfl, (blk_cell BK411.out 2).trans rfl, (blk_cell BK411.out 3).trans rfl⟩ (fun hHeld => ?_)
                 clear hK K
                 refine zn ?_
                 refine zp 16 87 ?_
                 refine zp 17 88 ?_
                 refine zp 18 89 ?_
                 refine zt 19 90 ?_
                 refine zo 20 (some 91) fun K hK => ?_
                 refine goes_ Tryd.func8 (by kernel_rfl) rfl #[.slice Ao100 t426.length co100, .agg #[.int .i64 t393, .int .i64 t394, .int .i64 t395, .slice Ao32 y414.length co32]] (by rfl) rfl rfl zM ?_
                 with_reducible refine (impl_InRange.calls kj12 _ _ t426 t393 t394 t395 _ _ y414 true _ ?side1 ?side2 ?side3 ?side4 A74.out).mono ?_
                 (case side1 => repeat (first | exact (Kd.N_reads' HO_8.out).2.2 | (with_reducible refine Kd.C_alloc ?_ _) | (with_reducible refine Kd.C_drewN ?_ _) | (with_reducible refine Kd.C_drew ?_)))
                 (case side2 => exact (Kd.N_reads' HO_8.out).2.1)
                 (case side3 => repeat (first | exact (Kd.R_reads' HO_412003.out).2.2 | (with_reducible refine Kd.C_alloc ?_ _) | (with_reducible refine Kd.C_drewN ?_ _) | (with_reducible refine Kd.C_drew ?_)))
                 (case side4 => exact (Kd.R_reads' HO_412003.out).2.1)
                 rintro e w101 ⟨rfl, hb⟩
                 refine ⟨_, rfl, ?_⟩
                 replace HO_6 := zA (Kd.N_below (zN HO_6.out) hb)
                 replace HO_8 := zA (Kd.N_below (zN HO_8.out) hb)
                 replace HO_10 := zA (Kd.N_below (zN HO_10.out) hb)
                 replace HO_412003 := zr HO_412003 hb
                 replace HO_413003 := zr HO_413003 hb
                 replace HO_414003 := zr HO_414003 hb
                 replace BK411 := zb BK411 hb
                 replace BK412 := zb BK412 hb
                 replace BK413 := zb BK413 hb
                 replace HB := zh HB hb
                 (try clear hb)
                 refine hK.out _ _ ⟨(blk_cell BK412.out 0).trans rfl, (blk_cell BK412.out 1).trans rfl, (blk_cell BK412.out 2).trans rfl, (blk_cell BK412.out 3).trans rfl, (blk_cell BK411.out 0).trans rfl, (blk_cell BK411.out 1).trans rfl, (blk_cell BK411.out 2).trans rfl, (blk_cell BK411.out 3).trans rfl⟩ (fun hHeld => ?_)
                 clear hK K
                 refine zn ?_
                 refine zp 21 92 ?_
                 refine zp 22 93 ?_
                 refine zp 23 94 ?_
                 refine zp 26 97 ?_
                 refine zt 24 95 ?_
                 refine zo 25 (some 96) fun K hK => ?_
                 refine goes_ Tryd.func8 (by kernel_rfl) rfl #[.slice Ao98 t421.length co98, .agg #[.int .i64 t399, .int .i64 t400, .int .i64 t401, .slice Ao37 y417.length co37]] (by rfl) rfl rfl zM ?_
                 with_reducible refine (impl_InRange.calls kj12 _ _ t421 t399 t400 t401 _ _ y417 t437 _ ?side1 ?side2 ?side3 ?side4 A76.out).mono ?_
                 (case side1 => repeat (first | exact (Kd.N_reads' HO_6.out).2.2 | (with_reducible refine Kd.C_alloc ?_ _) | (with_reducible refine Kd.C_drewN ?_ _) | (with_reducible refine Kd.C_drew ?_)))
                 (case side2 => exact (Kd.N_reads' HO_6.out).2.1)
                 (case side3 => repeat (first | exact (Kd.R_reads' HO_413003.out).2.2 | (with_reducible refine Kd.C_alloc ?_ _) | (with_reducible refine Kd.C_drewN ?_ _) | (with_reducible refine Kd.C_drew ?_)))
                 (case side4 => exact (Kd.R_reads' HO_413003.out).2.1)
                 rintro e w102 ⟨rfl, hb⟩
                 refine ⟨_, rfl, ?_⟩
                 replace HO_6 := zA (Kd.N_below (zN HO_6.out) hb)
                 replace HO_8 := zA (Kd.N_below (zN HO_8.out) hb)
                 replace HO_10 := zA (Kd.N_below (zN HO_10.out) hb)
                 replace HO_412003 := zr HO_412003 hb
                 replace HO_413003 := zr HO_413003 hb
                 replace HO_414003 := zr HO_414003 hb
                 replace BK411 := zb BK411 hb
                 replace BK412 := zb BK412 hb
                 replace BK413 := zb BK413 hb
                 replace HB := zh HB hb
                 (try clear hb)
                 refine hK.out _ _ ⟨(blk_cell BK412.out 0).trans rfl, (blk_cell BK412.out 1).trans rfl, (blk_cell BK412.out 2).trans rfl, (blk_cell BK412.out 3).trans rfl, (blk_cell BK411.out 0).trans rfl, (blk_cell BK411.out 1).trans rfl, (blk_cell BK411.out 2).trans rfl, (blk_cell BK411.out 3).trans rfl⟩ (fun hHeld => ?_)
                 clear hK K
                 refine zn ?_
                 refine zp 27 98 ?_
                 refine zt 28 99 ?_
                 refine zt 29 100 ?_
                 refine zo 30 (some 101) fun K hK => ?_
                 refine goes_ Tryd.func9 (by kernel_rfl) rfl #[.agg #[.int .i64 t399, .int .i64 t400, .int .i64 t401, .slice Ao37 y417.length co37], .agg #[.int .i64 t393, .int .i64 t394, .int .i64 t395, .slice Ao32 y414.length co32]] (by rfl) rfl rfl zM ?_
                 with_reducible refine (impl_LessVer.calls kj12 t399 t400 t401 _ _ y417 t393 t394 t395 _ _ y414 t438 _ ?side1 ?side2 ?side3 ?side4 A78.out).mono ?_
                 (case side1 => repeat (first | exact (Kd.R_reads' HO_413003.out).2.2 | (with_reducible refine Kd.C_alloc ?_ _) | (with_reducible refine Kd.C_drewN ?_ _) | (with_reducible refine Kd.C_drew ?_)))
                 (case side2 => exact (Kd.R_reads' HO_413003.out).2.1)
                 (case side3 => repeat (first | exact (Kd.R_reads' HO_412003.out).2.2 | (with_reducible refine Kd.C_alloc ?_ _) | (with_reducible refine Kd.C_drewN ?_ _) | (with_reducible refine Kd.C_drew ?_)))
                 (case side4 => exact (Kd.R_reads' HO_412003.out).2.1)
                 rintro e w103 ⟨rfl, hb⟩
                 refine ⟨_, rfl, ?_⟩
                 replace HO_6 := zA (Kd.N_below (zN HO_6.out) hb)
                 replace HO_8 := zA (Kd.N_below (zN HO_8.out) hb)
                 replace HO_10 := zA (Kd.N_below (zN HO_10.out) hb)
                 replace HO_412003 := zr HO_412003 hb
                 replace HO_413003 := zr HO_413003 hb
                 replace HO_414003 := zr HO_414003 hb
                 replace BK411 := zb BK411 hb
                 replace BK412 := zb BK412 hb
                 replace BK413 := zb BK413 hb
                 replace HB := zh HB hb
                 (try clear hb)
                 refine hK.out _ _ ⟨(blk_cell BK412.out 0).trans rfl, (blk_cell BK412.out 1).trans rfl, (blk_cell BK412.out 2).trans rfl, (blk_cell BK412.out 3).trans rfl, (blk_cell BK411.out 0).trans rfl, (blk_cell BK411.out 1).trans rfl, (blk_cell BK411.out 2).trans rfl, (blk_cell BK411.out 3).trans rfl⟩ (fun hHeld => ?_)
                 clear hK K
                 refine zn ?_
                 refine zp 31 102 ?_
                 refine zp 32 103 ?_
                 refine zp 33 104 ?_
                 refine zp 34 105 ?_
                 refine zp 35 106 ?_
                 refine zp 36 107 ?_
                 refine zp 39 110 ?_
                 refine zp 41 112 ?_
                 refine zt 37 108 ?_
                 refine zt 40 111 ?_
                 refine zt 42 113 ?_
                 refine zp 43 114 ?_
                 refine zo 38 (some 109) fun K hK => ?_
                 refine goes_ Tryd.func8 (by kernel_rfl) rfl #[.slice Ao100 t426.length co100, .agg #[.int .i64 t399, .int .i64 t400, .int .i64 t401, .slice Ao37 y417.length co37]] (by rfl) rfl rfl zM ?_
                 with_reducible refine (impl_InRange.calls kj12 _ _ t426 t399 t400 t401 _ _ y417 t439 _ ?side1 ?side2 ?side3 ?side4 A80.out).mono ?_
                 (case side1 => repeat (first | exact (Kd.N_reads' HO_8.out).2.2 | (with_reducible refine Kd.C_alloc ?_ _) | (with_reducible refine Kd.C_drewN ?_ _) | (with_reducible refine Kd.C_drew ?_)))
                 (case side2 => exact (Kd.N_reads' HO_8.out).2.1)
                 (case side3 => repeat (first | exact (Kd.R_reads' HO_413003.out).2.2 | (with_reducible refine Kd.C_alloc ?_ _) | (with_reducible refine Kd.C_drewN ?_ _) | (with_reducible refine Kd.C_drew ?_)))
                 (case side4 => exact (Kd.R_reads' HO_413003.out).2.1)
                 rintro e w104 ⟨rfl, hb⟩
                 refine ⟨_, rfl, ?_⟩
                 replace HO_6 := zA (Kd.N_below (zN HO_6.out) hb)
                 replace HO_8 := zA (Kd.N_below (zN HO_8.out) hb)
                 replace HO_10 := zA (Kd.N_below (zN HO_10.out) hb)
                 replace HO_412003 := zr HO_412003 hb
                 replace HO_413003 := zr HO_413003 hb
                 replace HO_414003 := zr HO_414003 hb
                 replace BK411 := zb BK411 hb
                 replace BK412 := zb BK412 hb
                 replace BK413 := zb BK413 hb
                 replace HB := zh HB hb
                 (try clear hb)
                 refine hK.out _ _ ⟨(blk_cell BK412.out 0).trans rfl, (blk_cell BK412.out 1).trans rfl, (blk_cell BK412.out 2).trans rfl, (blk_cell BK412.out 3).trans rfl, (blk_cell BK411.out 0).trans rfl, (blk_cell BK411.out 1).trans rfl, (blk_cell BK411.out 2).trans rfl, (blk_cell BK411.out 3).trans rfl⟩ (fun hHeld => ?_)
                 clear hK K
                 refine zn ?_
                 refine zp 44 115 ?_
                 refine zp 45 116 ?_
                 refine zp 47 118 ?_
                 refine zt 46 117 ?_
                 refine zt 48 119 ?_
                 refine zp 49 120 ?_
                 refine zp 50 121 ?_
                 refine zp 51 122 ?_
                 refine zu 52 123 ?_
                 refine zu 53 124 ?_
                 refine zu 54 125 ?_
                 refine zu 55 126 ?_
                 refine zp 56 127 ?_
                 refine zp 57 128 ?_
                 refine zp 58 129 ?_
                 refine zp 59 2 ?_
                 refine done_ (done_of HT_.out (by kernel_rfl)) ?_
                 try go_wp2
                 go_ret
                 exact ⟨zE, zW HB.out⟩
               ·rw [if_neg c81] at H
                have c81b0 : (t393 == t399) = false := beq_eq_false_iff_ne.mpr c81
                have c81b1 : (t393 != t399) = true := bne_iff_ne.mpr c81
                obtain rfl := Option.some.inj H
                try go_wp2
                replace HO_6 := zA (Kd.N_drew HO_6.out)
                replace HO_8 := zA (Kd.N_drew HO_8.out)
                replace HO_10 := zA (Kd.N_drew HO_10.out)
                replace HO_412003 := zA (Kd.R_drew HO_412003.out)
                replace HO_413003 := zA (Kd.R_drew HO_413003.out)
                replace HO_414003 := zA (Kd.R_drew HO_414003.out)
                replace BK411 := zA (blk_drew BK411.out)
                replace BK412 := zA (blk_drew BK412.out)
                replace BK413 := zA (blk_drew BK413.out)
                replace HB := zA (below_drew1 HB.out)
                obtain ⟨Ao106, co106, eo106⟩ := Kd.N_slice HO_10.out
                (first | subst eo106 | (injection eo106 with f1_ f2_ f3_; have f4_ := f1_.symm; have f5_ := f3_.symm; clear f1_ f2_ f3_; subst f4_; subst f5_))
                refine start_ (n := 60) (S := fun w' => w'.cell? ⟨gb412, 0, none⟩ = some (.int .i64 t399) ∧ w'.cell? ⟨gb412, 1, none⟩ = some (.int .i64 t400) ∧ w'.cell? ⟨gb412, 2, none⟩ = some (.int .i64 t401) ∧ w'.cell? ⟨gb412, 3, none⟩ = some (.slice Ao37 y417.length co37) ∧ w'.cell? ⟨gb411, 0, none⟩ = some (.int .i64 t393) ∧ w'.cell? ⟨gb411, 1, none⟩ = some (.int .i64 t394) ∧ w'.cell? ⟨gb411, 2, none⟩ = some (.int .i64 t395) ∧ w'.cell? ⟨gb411, 3, none⟩ = some (.slice Ao32 y414.length co32)) (ds := []) (Array.replicate 60 false) (by kernel_rfl) rfl rfl ⟨(blk_cell BK412.out 0).trans rfl, (blk_cell BK412.out 1).trans rfl, (blk_cell BK412.out 2).trans rfl, (blk_cell BK412.out 3).trans rfl, (blk_cell BK411.out 0).trans rfl, (blk_cell BK411.out 1).trans rfl, (blk_cell BK411.out 2).trans rfl, (blk_cell BK411.out 3).trans rfl⟩ (fun hHeld => ?_); refine with_tabW laws_FnCarets.tab12 laws_FnCarets.bits12 (fun HT_ HW_ => ?_)
                generalize wc.drew = w105 at HO_6 HO_8 HO_10 HO_412003 HO_413003 HO_414003 BK411 BK412 BK413 HB hHeld ⊢
                refine zp 0 71 ?_
                refine zp 1 72 ?_
                refine zp 2 73 ?_
                refine zp 3 74 ?_
                refine zp 4 75 ?_
                refine zp 5 76 ?_
                refine zp 6 77 ?_
                refine zp 7 78 ?_
                refine zp 8 79 ?_
                refine zt 9 80 ?_
                refine zo 10 (some 81) fun K hK => ?_
                refine goes_ Tryd.func8 (by kernel_rfl) rfl #[.slice Ao106 t430.length co106, .agg #[.int .i64 t399, .int .i64 t400, .int .i64 t401, .slice Ao37 y417.length co37]] (by rfl) rfl rfl zM ?_
                with_reducible refine (impl_InRange.calls kj12 _ _ t430 t399 t400 t401 _ _ y417 true _ ?side1 ?side2 ?side3 ?side4 A70.out).mono ?_
                (case side1 => repeat (first | exact (Kd.N_reads' HO_10.out).2.2 | (with_reducible refine Kd.C_alloc ?_ _) | (with_reducible refine Kd.C_drewN ?_ _) | (with_reducible refine Kd.C_drew ?_)))
                (case side2 => exact (Kd.N_reads' HO_10.out).2.1)
                (case side3 => repeat (first | exact (Kd.R_reads' HO_413003.out).2.2 | (with_reducible refine Kd.C_alloc ?_ _) | (with_reducible refine Kd.C_drewN ?_ _) | (with_reducible refine Kd.C_drew ?_)))
                (case side4 => exact (Kd.R_reads' HO_413003.out).2.1)
                rintro e w107 ⟨rfl, hb⟩
                refine ⟨_, rfl, ?_⟩
                replace HO_6 := zA (Kd.N_below (zN HO_6.out) hb)
                replace HO_8 := zA (Kd.N_below (zN HO_8.out) hb)
                replace HO_10 := zA (Kd.N_below (zN HO_10.out) hb)
                replace HO_412003 := zr HO_412003 hb
                replace HO_413003 := zr HO_413003 hb
                replace HO_414003 := zr HO_414003 hb
                replace BK411 := zb BK411 hb
                replace BK412 := zb BK412 hb
                replace BK413 := zb BK413 hb
                replace HB := zh HB hb
                (try clear hb)
                obtain ⟨Ao108, co108, eo108⟩ := Kd.N_slice HO_6.out
                (first | subst eo108 | (injection eo108 with f1_ f2_ f3_; have f4_ := f1_.symm; have f5_ := f3_.symm; clear f1_ f2_ f3_; subst f4_; subst f5_))
                refine hK.out _ _ ⟨(blk_cell BK412.out 0).trans rfl, (blk_cell BK412.out 1).trans rfl, (blk_cell BK412.out 2).trans rfl, (blk_cell BK412.out 3).trans rfl, (blk_cell BK411.out 0).trans rfl, (blk_cell BK411.out 1).trans rfl, (blk_cell BK411.out 2).trans rfl, (blk_cell BK411.out 3).trans rfl⟩ (fun hHeld => ?_)
                clear hK K
                refine zn ?_
                refine zp 11 82 ?_
                refine zp 12 83 ?_
                refine zp 13 84 ?_
                refine zt 14 85 ?_
                refine zo 15 (some 86) fun K hK => ?_
                refine goes_ Tryd.func8 (by kernel_rfl) rfl #[.slice Ao108 t421.length co108, .agg #[.int .i64 t393, .int .i64 t394, .int .i64 t395, .slice Ao32 y414.length co32]] (by rfl) rfl rfl zM ?_
                with_reducible refine (impl_InRange.calls kj12 _ _ t421 t393 t394 t395 _ _ y414 true _ ?side1 ?side2 ?side3 ?side4 A72.out).mono ?_
                (case side1 => repeat (first | exact (Kd.N_reads' HO_6.out).2.2 | (with_reducible refine Kd.C_alloc ?_ _) | (with_reducible refine Kd.C_drewN ?_ _) | (with_reducible refine Kd.C_drew ?_)))
                (case side2 => exact (Kd.N_reads' HO_6.out).2.1)
                (case side3 => repeat (first | exact (Kd.R_reads' HO_412003.out).2.2 | (with_reducible refine Kd.C_alloc ?_ _) | (with_reducible refine Kd.C_drewN ?_ _) | (with_reducible refine Kd.C_drew ?_)))
                (case side4 => exact (Kd.R_reads' HO_412003.out).2.1)
                rintro e w109 ⟨rfl, hb⟩
                refine ⟨_, rfl, ?_⟩
                replace HO_6 := zA (Kd.N_below (zN HO_6.out) hb)
                replace HO_8 := zA (Kd.N_below (zN HO_8.out) hb)
                replace HO_10 := zA (Kd.N_below (zN HO_10.out) hb)
                replace HO_412003 := zr HO_412003 hb
                replace HO_413003 := zr HO_413003 hb
                replace HO_414003 := zr HO_414003 hb
                replace BK411 := zb BK411 hb
                replace BK412 := zb BK412 hb
                replace BK413 := zb BK413 hb
                replace HB := zh HB hb
                (try clear hb)
                obtain ⟨Ao110, co110, eo110⟩ := Kd.N_slice HO_8.out
                (first | subst eo110 | (injection eo110 with f1_ f2_ f3_; have f4_ := f1_.symm; have f5_ := f3_.symm; clear f1_ f2_ f3_; subst f4_; subst f5_))
                refine hK.out _ _ ⟨(blk_cell BK412.out 0).trans rfl, (blk_cell BK412.out 1).trans rfl, (blk_cell BK412.out 2).trans rfl, (blk_cell BK412.out 3).trans rfl, (blk_cell BK411.out 0).trans rfl, (blk_cell BK411.out 1).trans rfl, (blk_cell BK411.out 2).trans rfl, (blk_cell BK411.out 3).trans rfl⟩ (fun hHeld => ?_)
                clear hK K
                refine zn ?_
                refine zp 16 87 ?_
                refine zp 17 88 ?_
                refine zp 18 89 ?_
                refine zt 19 90 ?_
                refine zo 20 (some 91) fun K hK => ?_
                refine goes_ Tryd.func8 (by kernel_rfl) rfl #[.slice Ao110 t426.length co110, .agg #[.int .i64 t393, .int .i64 t394, .int .i64 t395, .slice Ao32 y414.length co32]] (by rfl) rfl rfl zM ?_
                with_reducible refine (impl_InRange.calls kj12 _ _ t426 t393 t394 t395 _ _ y414 true _ ?side1 ?side2 ?side3 ?side4 A74.out).mono ?_
                (case side1 => repeat (first | exact (Kd.N_reads' HO_8.out).2.2 | (with_reducible refine Kd.C_alloc ?_ _) | (with_reducible refine Kd.C_drewN ?_ _) | (with_reducible refine Kd.C_drew ?_)))
                (case side2 => exact (Kd.N_reads' HO_8.out).2.1)
                (case side3 => repeat (first | exact (Kd.R_reads' HO_412003.out).2.2 | (with_reducible refine Kd.C_alloc ?_ _) | (with_reducible refine Kd.C_drewN ?_ _) | (with_reducible refine Kd.C_drew ?_)))
                (case side4 => exact (Kd.R_reads' HO_412003.out).2.1)
                rintro e w111 ⟨rfl, hb⟩
                refine ⟨_, rfl, ?_⟩
                replace HO_6 := zA (Kd.N_below (zN HO_6.out) hb)
                replace HO_8 := zA (Kd.N_below (zN HO_8.out) hb)
                replace HO_10 := zA (Kd.N_below (zN HO_10.out) hb)
                replace HO_412003 := zr HO_412003 hb
                replace HO_413003 := zr HO_413003 hb
                replace HO_414003 := zr HO_414003 hb
                replace BK411 := zb BK411 hb
                replace BK412 := zb BK412 hb
                replace BK413 := zb BK413 hb
                replace HB := zh HB hb
                (try clear hb)
                refine hK.out _ _ ⟨(blk_cell BK412.out 0).trans rfl, (blk_cell BK412.out 1).trans rfl, (blk_cell BK412.out 2).trans rfl, (blk_cell BK412.out 3).trans rfl, (blk_cell BK411.out 0).trans rfl, (blk_cell BK411.out 1).trans rfl, (blk_cell BK411.out 2).trans rfl, (blk_cell BK411.out 3).trans rfl⟩ (fun hHeld => ?_)
                clear hK K
                refine zn ?_
                refine zp 21 92 ?_
                refine zp 22 93 ?_
                refine zp 23 94 ?_
                refine zp 26 97 ?_
                refine zt 24 95 ?_
                refine zo 25 (some 96) fun K hK => ?_
                refine goes_ Tryd.func8 (by kernel_rfl) rfl #[.slice Ao108 t421.length co108, .agg #[.int .i64 t399, .int .i64 t400, .int .i64 t401, .slice Ao37 y417.length co37]] (by rfl) rfl rfl zM ?_
                with_reducible refine (impl_InRange.calls kj12 _ _ t421 t399 t400 t401 _ _ y417 t437 _ ?side1 ?side2 ?side3 ?side4 A76.out).mono ?_
                (case side1 => repeat (first | exact (Kd.N_reads' HO_6.out).2.2 | (with_reducible refine Kd.C_alloc ?_ _) | (with_reducible refine Kd.C_drewN ?_ _) | (with_reducible refine Kd.C_drew ?_)))
                (case side2 => exact (Kd.N_reads' HO_6.out).2.1)
                (case side3 => repeat (first | exact (Kd.R_reads' HO_413003.out).2.2 | (with_reducible refine Kd.C_alloc ?_ _) | (with_reducible refine Kd.C_drewN ?_ _) | (with_reducible refine Kd.C_drew ?_)))
                (case side4 => exact (Kd.R_reads' HO_413003.out).2.1)
                rintro e w112 ⟨rfl, hb⟩
                refine ⟨_, rfl, ?_⟩
                replace HO_6 := zA (Kd.N_below (zN HO_6.out) hb)
                replace HO_8 := zA (Kd.N_below (zN HO_8.out) hb)
                replace HO_10 := zA (Kd.N_below (zN HO_10.out) hb)
                replace HO_412003 := zr HO_412003 hb
                replace HO_413003 := zr HO_413003 hb
                replace HO_414003 := zr HO_414003 hb
                replace BK411 := zb BK411 hb
                replace BK412 := zb BK412 hb
                replace BK413 := zb BK413 hb
                replace HB := zh HB hb
                (try clear hb)
                refine hK.out _ _ ⟨(blk_cell BK412.out 0).trans rfl, (blk_cell BK412.out 1).trans rfl, (blk_cell BK412.out 2).trans rfl, (blk_cell BK412.out 3).trans rfl, (blk_cell BK411.out 0).trans rfl, (blk_cell BK411.out 1).trans rfl, (blk_cell BK411.out 2).trans rfl, (blk_cell BK411.out 3).trans rfl⟩ (fun hHeld => ?_)
                clear hK K
                refine zn ?_
                refine zp 27 98 ?_
                refine zt 28 99 ?_
                refine zt 29 100 ?_
                refine zo 30 (some 101) fun K hK => ?_
                refine goes_ Tryd.func9 (by kernel_rfl) rfl #[.agg #[.int .i64 t399, .int .i64 t400, .int .i64 t401, .slice Ao37 y417.length co37], .agg #[.int .i64 t393, .int .i64 t394, .int .i64 t395, .slice Ao32 y414.length co32]] (by rfl) rfl rfl zM ?_
                with_reducible refine (impl_LessVer.calls kj12 t399 t400 t401 _ _ y417 t393 t394 t395 _ _ y414 t438 _ ?side1 ?side2 ?side3 ?side4 A78.out).mono ?_
                (case side1 => repeat (first | exact (Kd.R_reads' HO_413003.out).2.2 | (with_reducible refine Kd.C_alloc ?_ _) | (with_reducible refine Kd.C_drewN ?_ _) | (with_reducible refine Kd.C_drew ?_)))
                (case side2 => exact (Kd.R_reads' HO_413003.out).2.1)
                (case side3 => repeat (first | exact (Kd.R_reads' HO_412003.out).2.2 | (with_reducible refine Kd.C_alloc ?_ _) | (with_reducible refine Kd.C_drewN ?_ _) | (with_reducible refine Kd.C_drew ?_)))
                (case side4 => exact (Kd.R_reads' HO_412003.out).2.1)
                rintro e w113 ⟨rfl, hb⟩
                refine ⟨_, rfl, ?_⟩
                replace HO_6 := zA (Kd.N_below (zN HO_6.out) hb)
                replace HO_8 := zA (Kd.N_below (zN HO_8.out) hb)
                replace HO_10 := zA (Kd.N_below (zN HO_10.out) hb)
                replace HO_412003 := zr HO_412003 hb
                replace HO_413003 := zr HO_413003 hb
                replace HO_414003 := zr HO_414003 hb
                replace BK411 := zb BK411 hb
                replace BK412 := zb BK412 hb
                replace BK413 := zb BK413 hb
                replace HB := zh HB hb
                (try clear hb)
                refine hK.out _ _ ⟨(blk_cell BK412.out 0).trans rfl, (blk_cell BK412.out 1).trans rfl, (blk_cell BK412.out 2).trans rfl, (blk_cell BK412.out 3).trans rfl, (blk_cell BK411.out 0).trans rfl, (blk_cell BK411.out 1).trans rfl, (blk_cell BK411.out 2).trans rfl, (blk_cell BK411.out 3).trans rfl⟩ (fun hHeld => ?_)
                clear hK K
                refine zn ?_
                refine zp 31 102 ?_
                refine zp 32 103 ?_
                refine zp 33 104 ?_
                refine zp 34 105 ?_
                refine zp 35 106 ?_
                refine zp 36 107 ?_
                refine zp 39 110 ?_
                refine zp 41 112 ?_
                refine zt 37 108 ?_
                refine zt 40 111 ?_
                refine zt 42 113 ?_
                refine zp 43 114 ?_
                refine zo 38 (some 109) fun K hK => ?_
                refine goes_ Tryd.func8 (by kernel_rfl) rfl #[.slice Ao110 t426.length co110, .agg #[.int .i64 t399, .int .i64 t400, .int .i64 t401, .slice Ao37 y417.length co37]] (by rfl) rfl rfl zM ?_
                with_reducible refine (impl_InRange.calls kj12 _ _ t426 t399 t400 t401 _ _ y417 t439 _ ?side1 ?side2 ?side3 ?side4 A80.out).mono ?_
                (case side1 => repeat (first | exact (Kd.N_reads' HO_8.out).2.2 | (with_reducible refine Kd.C_alloc ?_ _) | (with_reducible refine Kd.C_drewN ?_ _) | (with_reducible refine Kd.C_drew ?_)))
                (case side2 => exact (Kd.N_reads' HO_8.out).2.1)
                (case side3 => repeat (first | exact (Kd.R_reads' HO_413003.out).2.2 | (with_reducible refine Kd.C_alloc ?_ _) | (with_reducible refine Kd.C_drewN ?_ _) | (with_reducible refine Kd.C_drew ?_)))
                (case side4 => exact (Kd.R_reads' HO_413003.out).2.1)
                rintro e w114 ⟨rfl, hb⟩
                refine ⟨_, rfl, ?_⟩
                replace HO_6 := zA (Kd.N_below (zN HO_6.out) hb)
                replace HO_8 := zA (Kd.N_below (zN HO_8.out) hb)
                replace HO_10 := zA (Kd.N_below (zN HO_10.out) hb)
                replace HO_412003 := zr HO_412003 hb
                replace HO_413003 := zr HO_413003 hb
                replace HO_414003 := zr HO_414003 hb
                replace BK411 := zb BK411 hb
                replace BK412 := zb BK412 hb
                replace BK413 := zb BK413 hb
                replace HB := zh HB hb
                (try clear hb)
                refine hK.out _ _ ⟨(blk_cell BK412.out 0).trans rfl, (blk_cell BK412.out 1).trans rfl, (blk_cell BK412.out 2).trans rfl, (blk_cell BK412.out 3).trans rfl, (blk_cell BK411.out 0).trans rfl, (blk_cell BK411.out 1).trans rfl, (blk_cell BK411.out 2).trans rfl, (blk_cell BK411.out 3).trans rfl⟩ (fun hHeld => ?_)
                clear hK K
                refine zn ?_
                refine zp 44 115 ?_
                refine zu 45 116 ?_
                refine zu 46 117 ?_
                refine zu 47 118 ?_
                refine zu 48 119 ?_
                refine zu 49 120 ?_
                refine zp 50 121 ?_
                refine zp 51 122 ?_
                refine zu 52 123 ?_
                refine zu 53 124 ?_
                refine zu 54 125 ?_
                refine zu 55 126 ?_
                refine zp 56 127 ?_
                refine zp 57 128 ?_
                refine zp 58 129 ?_
                refine zp 59 2 ?_
                refine done_ (done_of HT_.out (by kernel_rfl)) ?_
                try go_wp2
                go_ret
                exact ⟨zE, zW HB.out⟩
              ·rw [if_neg c79] at H
               have c79b0 : (t437 == (!t438)) = false := by simpa using c79
               (try (have c79b1 : decide (t437 = (!t438)) = false := by simpa using c79))
               (try (have c79b2 : (t437 == (!t438)) = false := by simpa using c79))
               (try (have c79b3 : ¬ (t437 = (!t438)) := by simpa using c79))
               clear c79
               exact absurd H (by simp)
             ·replace c77 := Bool.eq_false_iff.mpr c77
              subst c77
              rw [if_neg zFT] at H
              by_cases c115 : (t437 == false) = true
              ·rw [if_pos c115] at H
               have c115b0 : (t437 == false) = true := c115
               (try (have c115b1 : decide (t437 = false) = true := by simpa using c115))
               (try (have c115b2 : (t437 == false) = true := by simpa using c115))
               clear c115
               replace H := Option.bind_eq_some_iff.mp H
               obtain ⟨t441, A1160, H⟩ := H
               try dsimp only at H
               have A116 := Aside0.mk A1160
               clear A1160
               by_cases c117 : t393 = t399
               ·rw [if_pos c117] at H
                have c117b0 : (t393 == t399) = true := beq_iff_eq.mpr c117
                have c117b1 : (t393 != t399) = false := bne_eq_false_iff_eq.mpr c117
                clear c117
                by_cases c118 : t394 = t400
                ·rw [if_pos c118] at H
                 have c118b0 : (t394 == t400) = true := beq_iff_eq.mpr c118
                 have c118b1 : (t394 != t400) = false := bne_eq_false_iff_eq.mpr c118
                 clear c118
                 replace H := Option.bind_eq_some_iff.mp H
                 obtain ⟨t442, A1190, H⟩ := H
                 try dsimp only at H
                 have A119 := Aside0.mk A1190
                 clear A1190
                 obtain rfl := Option.some.inj H
                 try go_wp2
                 replace HO_6 := zA (Kd.N_drew HO_6.out)
                 replace HO_8 := zA (Kd.N_drew HO_8.out)
                 replace HO_10 := zA (Kd.N_drew HO_10.out)
                 replace HO_412003 := zA (Kd.R_drew HO_412003.out)
                 replace HO_413003 := zA (Kd.R_drew HO_413003.out)
                 replace HO_414003 := zA (Kd.R_drew HO_414003.out)
                 replace BK411 := zA (blk_drew BK411.out)
                 replace BK412 := zA (blk_drew BK412.out)
                 replace BK413 := zA (blk_drew BK413.out)
                 replace HB := zA (below_drew1 HB.out)
                 obtain ⟨Ao121, co121, eo121⟩ := Kd.N_slice HO_10.out
                 (first | subst eo121 | (injection eo121 with f1_ f2_ f3_; have f4_ := f1_.symm; have f5_ := f3_.symm; clear f1_ f2_ f3_; subst f4_; subst f5_))
                 refine start_ (n := 60) (S := fun w' => w'.cell? ⟨gb412, 0, none⟩ = some (.int .i64 t399) ∧ w'.cell? ⟨gb412, 1, none⟩ = some (.int .i64 t400) ∧ w'.cell? ⟨gb412, 2, none⟩ = some (.int .i64 t401) ∧ w'.cell? ⟨gb412, 3, none⟩ = some (.slice Ao37 y417.length co37) ∧ w'.cell? ⟨gb411, 0, none⟩ = some (.int .i64 t393) ∧ w'.cell? ⟨gb411, 1, none⟩ = some (.int .i64 t394) ∧ w'.cell? ⟨gb411, 2, none⟩ = some (.int .i64 t395) ∧ w'.cell? ⟨gb411, 3, none⟩ = some (.slice Ao32 y414.length co32)) (ds := []) (Array.replicate 60 false) (by kernel_rfl) rfl rfl ⟨(blk_cell BK412.out 0).trans rfl, (blk_cell BK412.out 1).trans rfl, (blk_cell BK412.out 2).trans rfl, (blk_cell BK412.out 3).trans rfl, (blk_cell BK411.out 0).trans rfl, (blk_cell BK411.out 1).trans rfl, (blk_cell BK411.out 2).trans rfl, (blk_cell BK411.out 3).trans rfl⟩ (fun hHeld => ?_); refine with_tabW laws_FnCarets.tab12 laws_FnCarets.bits12 (fun HT_ HW_ => ?_)
                 generalize wc.drew = w120 at HO_6 HO_8 HO_10 HO_412003 HO_413003 HO_414003 BK411 BK412 BK413 HB hHeld ⊢
                 refine zp 0 71 ?_
                 refine zp 1 72 ?_
                 refine zp 2 73 ?_
                 refine zp 3 74 ?_
                 refine zp 4 75 ?_
                 refine zp 5 76 ?_
                 refine zp 6 77 ?_
                 refine zp 7 78 ?_
                 refine zp 8 79 ?_
                 refine zt 9 80 ?_
                 refine zo 10 (some 81) fun K hK => ?_
                 refine goes_ Tryd.func8 (by kernel_rfl) rfl #[.slice Ao121 t430.length co121, .agg #[.int .i64 t399, .int .i64 t400, .int .i64 t401, .slice Ao37 y417.length co37]] (by rfl) rfl rfl zM ?_
                 with_reducible refine (impl_InRange.calls kj12 _ _ t430 t399 t400 t401 _ _ y417 true _ ?side1 ?side2 ?side3 ?side4 A70.out).mono ?_
                 (case side1 => repeat (first | exact (Kd.N_reads' HO_10.out).2.2 | (with_reducible refine Kd.C_alloc ?_ _) | (with_reducible refine Kd.C_drewN ?_ _) | (with_reducible refine Kd.C_drew ?_)))
                 (case side2 => exact (Kd.N_reads' HO_10.out).2.1)
                 (case side3 => repeat (first | exact (Kd.R_reads' HO_413003.out).2.2 | (with_reducible refine Kd.C_alloc ?_ _) | (with_reducible refine Kd.C_drewN ?_ _) | (with_reducible refine Kd.C_drew ?_)))
                 (case side4 => exact (Kd.R_reads' HO_413003.out).2.1)
                 rintro e w122 ⟨rfl, hb⟩
                 refine ⟨_, rfl, ?_⟩
                 replace HO_6 := zA (Kd.N_below (zN HO_6.out) hb)
                 replace HO_8 := zA (Kd.N_below (zN HO_8.out) hb)
                 replace HO_10 := zA (Kd.N_below (zN HO_10.out) hb)
                 replace HO_412003 := zr HO_412003 hb
                 replace HO_413003 := zr HO_413003 hb
                 replace HO_414003 := zr HO_414003 hb
                 replace BK411 := zb BK411 hb
                 replace BK412 := zb BK412 hb
                 replace BK413 := zb BK413 hb
                 replace HB := zh HB hb
                 (try clear hb)
                 obtain ⟨Ao123, co123, eo123⟩ := Kd.N_slice HO_6.out
                 (first | subst eo123 | (injection eo123 with f1_ f2_ f3_; have f4_ := f1_.symm; have f5_ := f3_.symm; clear f1_ f2_ f3_; subst f4_; subst f5_))
                 refine hK.out _ _ ⟨(blk_cell BK412.out 0).trans rfl, (blk_cell BK412.out 1).trans rfl, (blk_cell BK412.out 2).trans rfl, (blk_cell BK412.out 3).trans rfl, (blk_cell BK411.out 0).trans rfl, (blk_cell BK411.out 1).trans rfl, (blk_cell BK411.out 2).trans rfl, (blk_cell BK411.out 3).trans rfl⟩ (fun hHeld => ?_)
                 clear hK K
                 refine zn ?_
                 refine zp 11 82 ?_
                 refine zp 12 83 ?_
                 refine zp 13 84 ?_
                 refine zt 14 85 ?_
                 refine zo 15 (some 86) fun K hK => ?_
                 refine goes_ Tryd.func8 (by kernel_rfl) rfl #[.slice Ao123 t421.length co123, .agg #[.int .i64 t393, .int .i64 t394, .int .i64 t395, .slice Ao32 y414.length co32]] (by rfl) rfl rfl zM ?_
                 with_reducible refine (impl_InRange.calls kj12 _ _ t421 t393 t394 t395 _ _ y414 true _ ?side1 ?side2 ?side3 ?side4 A72.out).mono ?_
                 (case side1 => repeat (first | exact (Kd.N_reads' HO_6.out).2.2 | (with_reducible refine Kd.C_alloc ?_ _) | (with_reducible refine Kd.C_drewN ?_ _) | (with_reducible refine Kd.C_drew ?_)))
                 (case side2 => exact (Kd.N_reads' HO_6.out).2.1)
                 (case side3 => repeat (first | exact (Kd.R_reads' HO_412003.out).2.2 | (with_reducible refine Kd.C_alloc ?_ _) | (with_reducible refine Kd.C_drewN ?_ _) | (with_reducible refine Kd.C_drew ?_)))
                 (case side4 => exact (Kd.R_reads' HO_412003.out).2.1)
                 rintro e w124 ⟨rfl, hb⟩
                 refine ⟨_, rfl, ?_⟩
                 replace HO_6 := zA (Kd.N_below (zN HO_6.out) hb)
                 replace HO_8 := zA (Kd.N_below (zN HO_8.out) hb)
                 replace HO_10 := zA (Kd.N_below (zN HO_10.out) hb)
                 replace HO_412003 := zr HO_412003 hb
                 replace HO_413003 := zr HO_413003 hb
                 replace HO_414003 := zr HO_414003 hb
                 replace BK411 := zb BK411 hb
                 replace BK412 := zb BK412 hb
                 replace BK413 := zb BK413 hb
                 replace HB := zh HB hb
                 (try clear hb)
                 obtain ⟨Ao125, co125, eo125⟩ := Kd.N_slice HO_8.out
                 (first | subst eo125 | (injection eo125 with f1_ f2_ f3_; have f4_ := f1_.symm; have f5_ := f3_.symm; clear f1_ f2_ f3_; subst f4_; subst f5_))
                 refine hK.out _ _ ⟨(blk_cell BK412.out 0).trans rfl, (blk_cell BK412.out 1).trans rfl, (blk_cell BK412.out 2).trans rfl, (blk_cell BK412.out 3).trans rfl, (blk_cell BK411.out 0).trans rfl, (blk_cell BK411.out 1).trans rfl, (blk_cell BK411.out 2).trans rfl, (blk_cell BK411.out 3).trans rfl⟩ (fun hHeld => ?_)
                 clear hK K
                 refine zn ?_
                 refine zp 16 87 ?_
                 refine zp 17 88 ?_
                 refine zp 18 89 ?_
                 refine zt 19 90 ?_
                 refine zo 20 (some 91) fun K hK => ?_
                 refine goes_ Tryd.func8 (by kernel_rfl) rfl #[.slice Ao125 t426.length co125, .agg #[.int .i64 t393, .int .i64 t394, .int .i64 t395, .slice Ao32 y414.length co32]] (by rfl) rfl rfl zM ?_
                 with_reducible refine (impl_InRange.calls kj12 _ _ t426 t393 t394 t395 _ _ y414 true _ ?side1 ?side2 ?side3 ?side4 A74.out).mono ?_
                 (case side1 => repeat (first | exact (Kd.N_reads' HO_8.out).2.2 | (with_reducible refine Kd.C_alloc ?_ _) | (with_reducible refine Kd.C_drewN ?_ _) | (with_reducible refine Kd.C_drew ?_)))
                 (case side2 => exact (Kd.N_reads' HO_8.out).2.1)
                 (case side3 => repeat (first | exact (Kd.R_reads' HO_412003.out).2.2 | (with_reducible refine Kd.C_alloc ?_ _) | (with_reducible refine Kd.C_drewN ?_ _) | (with_reducible refine Kd.C_drew ?_)))
                 (case side4 => exact (Kd.R_reads' HO_412003.out).2.1)
                 rintro e w126 ⟨rfl, hb⟩
                 refine ⟨_, rfl, ?_⟩
                 replace HO_6 := zA (Kd.N_below (zN HO_6.out) hb)
                 replace HO_8 := zA (Kd.N_below (zN HO_8.out) hb)
                 replace HO_10 := zA (Kd.N_below (zN HO_10.out) hb)
                 replace HO_412003 := zr HO_412003 hb
                 replace HO_413003 := zr HO_413003 hb
                 replace HO_414003 := zr HO_414003 hb
                 replace BK411 := zb BK411 hb
                 replace BK412 := zb BK412 hb
                 replace BK413 := zb BK413 hb
                 replace HB := zh HB hb
                 (try clear hb)
                 refine hK.out _ _ ⟨(blk_cell BK412.out 0).trans rfl, (blk_cell BK412.out 1).trans rfl, (blk_cell BK412.out 2).trans rfl, (blk_cell BK412.out 3).trans rfl, (blk_cell BK411.out 0).trans rfl, (blk_cell BK411.out 1).trans rfl, (blk_cell BK411.out 2).trans rfl, (blk_cell BK411.out 3).trans rfl⟩ (fun hHeld => ?_)
                 clear hK K
                 refine zn ?_
                 refine zp 21 92 ?_
                 refine zp 22 93 ?_
                 refine zp 23 94 ?_
                 refine zp 26 97 ?_
                 refine zt 24 95 ?_
                 refine zo 25 (some 96) fun K hK => ?_
                 refine goes_ Tryd.func8 (by kernel_rfl) rfl #[.slice Ao123 t421.length co123, .agg #[.int .i64 t399, .int .i64 t400, .int .i64 t401, .slice Ao37 y417.length co37]] (by rfl) rfl rfl zM ?_
                 with_reducible refine (impl_InRange.calls kj12 _ _ t421 t399 t400 t401 _ _ y417 t437 _ ?side1 ?side2 ?side3 ?side4 A76.out).mono ?_
                 (case side1 => repeat (first | exact (Kd.N_reads' HO_6.out).2.2 | (with_reducible refine Kd.C_alloc ?_ _) | (with_reducible refine Kd.C_drewN ?_ _) | (with_reducible refine Kd.C_drew ?_)))
                 (case side2 => exact (Kd.N_reads' HO_6.out).2.1)
                 (case side3 => repeat (first | exact (Kd.R_reads' HO_413003.out).2.2 | (with_reducible refine Kd.C_alloc ?_ _) | (with_reducible refine Kd.C_drewN ?_ _) | (with_reducible refine Kd.C_drew ?_)))
                 (case side4 => exact (Kd.R_reads' HO_413003.out).2.1)
                 rintro e w127 ⟨rfl, hb⟩
                 refine ⟨_, rfl, ?_⟩
                 replace HO_6 := zA (Kd.N_below (zN HO_6.out) hb)
                 replace HO_8 := zA (Kd.N_below (zN HO_8.out) hb)
                 replace HO_10 := zA (Kd.N_below (zN HO_10.out) hb)
                 replace HO_412003 := zr HO_412003 hb
                 replace HO_413003 := zr HO_413003 hb
                 replace HO_414003 := zr HO_414003 hb
                 replace BK411 := zb BK411 hb
                 replace BK412 := zb BK412 hb
                 replace BK413 := zb BK413 hb
                 replace HB := zh HB hb
                 (try clear hb)
                 refine hK.out _ _ ⟨(blk_cell BK412.out 0).trans rfl, (blk_cell BK412.out 1).trans rfl, (blk_cell BK412.out 2).trans rfl, (blk_cell BK412.out 3).trans rfl, (blk_cell BK411.out 0).trans rfl, (blk_cell BK411.out 1).trans rfl, (blk_cell BK411.out 2).trans rfl, (blk_cell BK411.out 3).trans rfl⟩ (fun hHeld => ?_)
                 clear hK K
                 refine zn ?_
                 refine zp 27 98 ?_
                 refine zu 28 99 ?_
                 refine zu 29 100 ?_
                 refine zu 30 101 ?_
                 refine zu 31 102 ?_
                 refine zp 32 103 ?_
                 refine zp 33 104 ?_
                 refine zp 34 105 ?_
                 refine zp 35 106 ?_
                 refine zp 36 107 ?_
                 refine zp 39 110 ?_
                 refine zp 41 112 ?_
                 refine zt 37 108 ?_
                 refine zt 40 111 ?_
                 refine zt 42 113 ?_
                 refine zp 43 114 ?_
                 refine zo 38 (some 109) fun K hK => ?_
                 refine goes_ Tryd.func8 (by kernel_rfl) rfl #[.slice Ao125 t426.length co125, .agg #[.int .i64 t399, .int .i64 t400, .int .i64 t401, .slice Ao37 y417.length co37]] (by rfl) rfl rfl zM ?_
                 with_reducible refine (impl_InRange.calls kj12 _ _ t426 t399 t400 t401 _ _ y417 t441 _ ?side1 ?side2 ?side3 ?side4 A116.out).mono ?_
                 (case side1 => repeat (first | exact (Kd.N_reads' HO_8.out).2.2 | (with_reducible refine Kd.C_alloc ?_ _) | (with_reducible refine Kd.C_drewN ?_ _) | (with_reducible refine Kd.C_drew ?_)))
                 (case side2 => exact (Kd.N_reads' HO_8.out).2.1)
                 (case side3 => repeat (first | exact (Kd.R_reads' HO_413003.out).2.2 | (with_reducible refine Kd.C_alloc ?_ _) | (with_reducible refine Kd.C_drewN ?_ _) | (with_reducible refine Kd.C_drew ?_)))
                 (case side4 => exact (Kd.R_reads' HO_413003.out).2.1)
                 rintro e w128 ⟨rfl, hb⟩
                 refine ⟨_, rfl, ?_⟩
                 replace HO_6 := zA (Kd.N_below (zN HO_6.out) hb)
                 replace HO_8 := zA (Kd.N_below (zN HO_8.out) hb)
                 replace HO_10 := zA (Kd.N_below (zN HO_10.out) hb)
                 replace HO_412003 := zr HO_412003 hb
                 replace HO_413003 := zr HO_413003 hb
                 replace HO_414003 := zr HO_414003 hb
                 replace BK411 := zb BK411 hb
                 replace BK412 := zb BK412 hb
                 replace BK413 := zb BK413 hb
                 replace HB := zh HB hb
                 (try clear hb)
                 refine hK.out _ _ ⟨(blk_cell BK412.out 0).trans rfl, (blk_cell BK412.out 1).trans rfl, (blk_cell BK412.out 2).trans rfl, (blk_cell BK412.out 3).trans rfl, (blk_cell BK411.out 0).trans rfl, (blk_cell BK411.out 1).trans rfl, (blk_cell BK411.out 2).trans rfl, (blk_cell BK411.out 3).trans rfl⟩ (fun hHeld => ?_)
                 clear hK K
                 refine zn ?_
                 refine zp 44 115 ?_
                 refine zp 45 116 ?_
                 refine zp 47 118 ?_
                 refine zt 46 117 ?_
                 refine zt 48 119 ?_
                 refine zp 49 120 ?_
                 refine zp 50 121 ?_
                 refine zp 51 122 ?_
                 refine zt 52 123 ?_
                 refine zt 53 124 ?_
                 refine zo 54 (some 125) fun K hK => ?_
                 refine goes_ Tryd.func9 (by kernel_rfl) rfl #[.agg #[.int .i64 t399, .int .i64 t400, .int .i64 t401, .slice Ao37 y417.length co37], .agg #[.int .i64 t393, .int .i64 t394, .int .i64 t395, .slice Ao32 y414.length co32]] (by rfl) rfl rfl zM ?_
                 with_reducible refine (impl_LessVer.calls kj12 t399 t400 t401 _ _ y417 t393 t394 t395 _ _ y414 t442 _ ?side1 ?side2 ?side3 ?side4 A119.out).mono ?_
                 (case side1 => repeat (first | exact (Kd.R_reads' HO_413003.out).2.2 | (with_reducible refine Kd.C_alloc ?_ _) | (with_reducible refine Kd.C_drewN ?_ _) | (with_reducible refine Kd.C_drew ?_)))
                 (case side2 => exact (Kd.R_reads' HO_413003.out).2.1)
                 (case side3 => repeat (first | exact (Kd.R_reads' HO_412003.out).2.2 | (with_reducible refine Kd.C_alloc ?_ _) | (with_reducible refine Kd.C_drewN ?_ _) | (with_reducible refine Kd.C_drew ?_)))
                 (case side4 => exact (Kd.R_reads' HO_412003.out).2.1)
                 rintro e w129 ⟨rfl, hb⟩
                 refine ⟨_, rfl, ?_⟩
                 replace HO_6 := zA (Kd.N_below (zN HO_6.out) hb)
                 replace HO_8 := zA (Kd.N_below (zN HO_8.out) hb)
                 replace HO_10 := zA (Kd.N_below (zN HO_10.out) hb)
                 replace HO_412003 := zr HO_412003 hb
                 replace HO_413003 := zr HO_413003 hb
                 replace HO_414003 := zr HO_414003 hb
                 replace BK411 := zb BK411 hb
                 replace BK412 := zb BK412 hb
                 replace BK413 := zb BK413 hb
                 replace HB := zh HB hb
                 (try clear hb)
                 refine hK.out _ _ ⟨(blk_cell BK412.out 0).trans rfl, (blk_cell BK412.out 1).trans rfl, (blk_cell BK412.out 2).trans rfl, (blk_cell BK412.out 3).trans rfl, (blk_cell BK411.out 0).trans rfl, (blk_cell BK411.out 1).trans rfl, (blk_cell BK411.out 2).trans rfl, (blk_cell BK411.out 3).trans rfl⟩ (fun hHeld => ?_)
                 clear hK K
                 refine zn ?_
                 refine zp 55 126 ?_
                 refine zp 56 127 ?_
                 refine zp 57 128 ?_
                 refine zp 58 129 ?_
                 refine zp 59 2 ?_
                 refine done_ (done_of HT_.out (by kernel_rfl)) ?_
                 try go_wp2
                 go_ret
                 exact ⟨zE, zW HB.out⟩
                ·rw [if_neg c118] at H
                 have c118b0 : (t394 == t400) = false := beq_eq_false_iff_ne.mpr c118
                 have c118b1 : (t394 != t400) = true := bne_iff_ne.mpr c118
                 obtain rfl := Option.some.inj H
                 try go_wp2
                 replace HO_6 := zA (Kd.N_drew HO_6.out)
                 replace HO_8 := zA (Kd.N_drew HO_8.out)
                 replace HO_10 := zA (Kd.N_drew HO_10.out)
                 replace HO_412003 := zA (Kd.R_drew HO_412003.out)
                 replace HO_413003 := zA (Kd.R_drew HO_413003.out)
                 replace HO_414003 := zA (Kd.R_drew HO_414003.out)
                 replace BK411 := zA (blk_drew BK411.out)
                 replace BK412 := zA (blk_drew BK412.out)
                 replace BK413 := zA (blk_drew BK413.out)
                 replace HB := zA (below_drew1 HB.out)
                 obtain ⟨Ao131, co131, eo131⟩ := Kd.N_slice HO_10.out
                 (first | subst eo131 | (injection eo131 with f1_ f2_ f3_; have f4_ := f1_.symm; have f5_ := f3_.symm; clear f1_ f2_ f3_; subst f4_; subst f5_))
                 refine start_ (n := 60) (S := fun w' => w'.cell? ⟨gb412, 0, none⟩ = some (.int .i64 t399) ∧ w'.cell? ⟨gb412, 1, none⟩ = some (.int .i64 t400) ∧ w'.cell? ⟨gb412, 2, none⟩ = some (.int .i64 t401) ∧ w'.cell? ⟨gb412, 3, none⟩ = some (.slice Ao37 y417.length co37) ∧ w'.cell? ⟨gb411, 0, none⟩ = some (.int .i64 t393) ∧ w'.cell? ⟨gb411, 1, none⟩ = some (.int .i64 t394) ∧ w'.cell? ⟨gb411, 2, none⟩ = some (.int .i64 t395) ∧ w'.cell? ⟨gb411, 3, none⟩ = some (.slice Ao32 y414.length co32)) (ds := []) (Array.replicate 60 false) (by kernel_rfl) rfl rfl ⟨(blk_cell BK412.out 0).trans rfl, (blk_cell BK412.out 1).trans rfl, (blk_cell BK412.out 2).trans rfl, (blk_cell BK412.out 3).trans rfl, (blk_cell BK411.out 0).trans rfl, (blk_cell BK411.out 1).trans rfl, (blk_cell BK411.out 2).trans rfl, (blk_cell BK411.out 3).trans rfl⟩ (fun hHeld => ?_); refine with_tabW laws_FnCarets.tab12 laws_FnCarets.bits12 (fun HT_ HW_ => ?_)
                 generalize wc.drew = w130 at HO_6 HO_8 HO_10 HO_412003 HO_413003 HO_414003 BK411 BK412 BK413 HB hHeld ⊢
                 refine zp 0 71 ?_
                 refine zp 1 72 ?_
                 refine zp 2 73 ?_
                 refine zp 3 74 ?_
                 refine zp 4 75 ?_
                 refine zp 5 76 ?_
                 refine zp 6 77 ?_
                 refine zp 7 78 ?_
                 refine zp 8 79 ?_
                 refine zt 9 80 ?_
                 refine zo 10 (some 81) fun K hK => ?_
                 refine goes_ Tryd.func8 (by kernel_rfl) rfl #[.slice Ao131 t430.length co131, .agg #[.int .i64 t399, .int .i64 t400, .int .i64 t401, .slice Ao37 y417.length co37]] (by rfl) rfl rfl zM ?_
                 with_reducible refine (impl_InRange.calls kj12 _ _ t430 t399 t400 t401 _ _ y417 true _ ?side1 ?side2 ?side3 ?side4 A70.out).mono ?_
                 (case side1 => repeat (first | exact (Kd.N_reads' HO_10.out).2.2 | (with_reducible refine Kd.C_alloc ?_ _) | (with_reducible refine Kd.C_drewN ?_ _) | (with_reducible refine Kd.C_drew ?_)))
                 (case side2 => exact (Kd.N_reads' HO_10.out).2.1)
                 (case side3 => repeat (first | exact (Kd.R_reads' HO_413003.out).2.2 | (with_reducible refine Kd.C_alloc ?_ _) | (with_reducible refine Kd.C_drewN ?_ _) | (with_reducible refine Kd.C_drew ?_)))
                 (case side4 => exact (Kd.R_reads' HO_413003.out).2.1)
                 rintro e w132 ⟨rfl, hb⟩
                 refine ⟨_, rfl, ?_⟩
                 replace HO_6 := zA (Kd.N_below (zN HO_6.out) hb)
                 replace HO_8 := zA (Kd.N_below (zN HO_8.out) hb)
                 replace HO_10 := zA (Kd.N_below (zN HO_10.out) hb)
                 replace HO_412003 := zr HO_412003 hb
                 replace HO_413003 := zr HO_413003 hb
                 replace HO_414003 := zr HO_414003 hb
                 replace BK411 := zb BK411 hb
                 replace BK412 := zb BK412 hb
                 replace BK413 := zb BK413 hb
                 replace HB := zh HB hb
                 (try clear hb)
                 obtain ⟨Ao133, co133, eo133⟩ := Kd.N_slice HO_6.out
                 (first | subst eo133 | (injection eo133 with f1_ f2_ f3_; have f4_ := f1_.symm; have f5_ := f3_.symm; clear f1_ f2_ f3_; subst f4_; subst f5_))
                 refine hK.out _ _ ⟨(blk_cell BK412.out 0).trans rfl, (blk_cell BK412.out 1).trans rfl, (blk_cell BK412.out 2).trans rfl, (blk_cell BK412.out 3).trans rfl, (blk_cell BK411.out 0).trans rfl, (blk_cell BK411.out 1).trans rfl, (blk_cell BK411.out 2).trans rfl, (blk_cell BK411.out 3).trans rfl⟩ (fun hHeld => ?_)
                 clear hK K
                 refine zn ?_
                 refine zp 11 82 ?_
                 refine zp 12 83 ?_
                 refine zp 13 84 ?_
                 refine zt 14 85 ?_
                 refine zo 15 (some 86) fun K hK => ?_
                 refine goes_ Tryd.func8 (by kernel_rfl) rfl #[.slice Ao133 t421.length co133, .agg #[.int .i64 t393, .int .i64 t394, .int .i64 t395, .slice Ao32 y414.length co32]] (by rfl) rfl rfl zM ?_
                 with_reducible refine (impl_InRange.calls kj12 _ _ t421 t393 t394 t395 _ _ y414 true _ ?side1 ?side2 ?side3 ?side4 A72.out).mono ?_
                 (case side1 => repeat (first | exact (Kd.N_reads' HO_6.out).2.2 | (with_reducible refine Kd.C_alloc ?_ _) | (with_reducible refine Kd.C_drewN ?_ _) | (with_reducible refine Kd.C_drew ?_)))
                 (case side2 => exact (Kd.N_reads' HO_6.out).2.1)
                 (case side3 => repeat (first | exact (Kd.R_reads' HO_412003.out).2.2 | (with_reducible refine Kd.C_alloc ?_ _) | (with_reducible refine Kd.C_drewN ?_ _) | (with_reducible refine Kd.C_drew ?_)))
                 (case side4 => exact (Kd.R_reads' HO_412003.out).2.1)
                 rintro e w134 ⟨rfl, hb⟩
                 refine ⟨_, rfl, ?_⟩
                 replace HO_6 := zA (Kd.N_below (zN HO_6.out) hb)
                 replace HO_8 := zA (Kd.N_below (zN HO_8.out) hb)
                 replace HO_10 := zA (Kd.N_below (zN HO_10.out) hb)
                 replace HO_412003 := zr HO_412003 hb
                 replace HO_413003 := zr HO_413003 hb
                 replace HO_414003 := zr HO_414003 hb
                 replace BK411 := zb BK411 hb
                 replace BK412 := zb BK412 hb
                 replace BK413 := zb BK413 hb
                 replace HB := zh HB hb
                 (try clear hb)
                 obtain ⟨Ao135, co135, eo135⟩ := Kd.N_slice HO_8.out
                 (first | subst eo135 | (injection eo135 with f1_ f2_ f3_; have f4_ := f1_.symm; have f5_ := f3_.symm; clear f1_ f2_ f3_; subst f4_; subst f5_))
                 refine hK.out _ _ ⟨(blk_cell BK412.out 0).trans rfl, (blk_cell BK412.out 1).trans rfl, (blk_cell BK412.out 2).trans rfl, (blk_cell BK412.out 3).trans rfl, (blk_cell BK411.out 0).trans rfl, (blk_cell BK411.out 1).trans rfl, (blk_cell BK411.out 2).trans rfl, (blk_cell BK411.out 3).trans rfl⟩ (fun hHeld => ?_)
                 clear hK K
                 refine zn ?_
                 refine zp 16 87 ?_
                 refine zp 17 88 ?_
                 refine zp 18 89 ?_
                 refine zt 19 90 ?_
                 refine zo 20 (some 91) fun K hK => ?_
                 refine goes_ Tryd.func8 (by kernel_rfl) rfl #[.slice Ao135 t426.length co135, .agg #[.int .i64 t393, .int .i64 t394, .int .i64 t395, .slice Ao32 y414.length co32]] (by rfl) rfl rfl zM ?_
                 with_reducible refine (impl_InRange.calls kj12 _ _ t426 t393 t394 t395 _ _ y414 true _ ?side1 ?side2 ?side3 ?side4 A74.out).mono ?_
                 (case side1 => repeat (first | exact (Kd.N_reads' HO_8.out).2.2 | (with_reducible refine Kd.C_alloc ?_ _) | (with_reducible refine Kd.C_drewN ?_ _) | (with_reducible refine Kd.C_drew ?_)))
                 (case side2 => exact (Kd.N_reads' HO_8.out).2.1)
                 (case side3 => repeat (first | exact (Kd.R_reads' HO_412003.out).2.2 | (with_reducible refine Kd.C_alloc ?_ _) | (with_reducible refine Kd.C_drewN ?_ _) | (with_reducible refine Kd.C_drew ?_)))
                 (case side4 => exact (Kd.R_reads' HO_412003.out).2.1)
                 rintro e w136 ⟨rfl, hb⟩
                 refine ⟨_, rfl, ?_⟩
                 replace HO_6 := zA (Kd.N_below (zN HO_6.out) hb)
                 replace HO_8 := zA (Kd.N_below (zN HO_8.out) hb)
                 replace HO_10 := zA (Kd.N_below (zN HO_10.out) hb)
                 replace HO_412003 := zr HO_412003 hb
                 replace HO_413003 := zr HO_413003 hb
                 replace HO_414003 := zr HO_414003 hb
                 replace BK411 := zb BK411 hb
                 replace BK412 := zb BK412 hb
                 replace BK413 := zb BK413 hb
                 replace HB := zh HB hb
                 (try clear hb)
                 refine hK.out _ _ ⟨(blk_cell BK412.out 0).trans rfl, (blk_cell BK412.out 1).trans rfl, (blk_cell BK412.out 2).trans rfl, (blk_cell BK412.out 3).trans rfl, (blk_cell BK411.out 0).trans rfl, (blk_cell BK411.out 1).trans rfl, (blk_cell BK411.out 2).trans rfl, (blk_cell BK411.out 3).trans rfl⟩ (fun hHeld => ?_)
                 clear hK K
                 refine zn ?_
                 refine zp 21 92 ?_
                 refine zp 22 93 ?_
                 refine zp 23 94 ?_
                 refine zp 26 97 ?_
                 refine zt 24 95 ?_
                 refine zo 25 (some 96) fun K hK => ?_
                 refine goes_ Tryd.func8 (by kernel_rfl) rfl #[.slice Ao133 t421.length co133, .agg #[.int .i64 t399, .int .i64 t400, .int .i64 t401, .slice Ao37 y417.length co37]] (by rfl) rfl rfl zM ?_
                 with_reducible refine (impl_InRange.calls kj12 _ _ t421 t399 t400 t401 _ _ y417 t437 _ ?side1 ?side2 ?side3 ?side4 A76.out).mono ?_
                 (case side1 => repeat (first | exact (Kd.N_reads' HO_6.out).2.2 | (with_reducible refine Kd.C_alloc ?_ _) | (with_reducible refine Kd.C_drewN ?_ _) | (with_reducible refine Kd.C_drew ?_)))
                 (case side2 => exact (Kd.N_reads' HO_6.out).2.1)
                 (case side3 => repeat (first | exact (Kd.R_reads' HO_413003.out).2.2 | (with_reducible refine Kd.C_alloc ?_ _) | (with_reducible refine Kd.C_drewN ?_ _) | (with_reducible refine Kd.C_drew ?_)))
                 (case side4 => exact (Kd.R_reads' HO_413003.out).2.1)
                 rintro e w137 ⟨rfl, hb⟩
                 refine ⟨_, rfl, ?_⟩
                 replace HO_6 := zA (Kd.N_below (zN HO_6.out) hb)
                 replace HO_8 := zA (Kd.N_below (zN HO_8.out) hb)
                 replace HO_10 := zA (Kd.N_below (zN HO_10.out) hb)
                 replace HO_412003 := zr HO_412003 hb
                 replace HO_413003 := zr HO_413003 hb
                 replace HO_414003 := zr HO_414003 hb
                 replace BK411 := zb BK411 hb
                 replace BK412 := zb BK412 hb
                 replace BK413 := zb BK413 hb
                 replace HB := zh HB hb
                 (try clear hb)
                 refine hK.out _ _ ⟨(blk_cell BK412.out 0).trans rfl, (blk_cell BK412.out 1).trans rfl, (blk_cell BK412.out 2).trans rfl, (blk_cell BK412.out 3).trans rfl, (blk_cell BK411.out 0).trans rfl, (blk_cell BK411.out 1).trans rfl, (blk_cell BK411.out 2).trans rfl, (blk_cell BK411.out 3).trans rfl⟩ (fun hHeld => ?_)
                 clear hK K
                 refine zn ?_
                 refine zp 27 98 ?_
                 refine zu 28 99 ?_
                 refine zu 29 100 ?_
                 refine zu 30 101 ?_
                 refine zu 31 102 ?_
                 refine zp 32 103 ?_
                 refine zp 33 104 ?_
                 refine zp 34 105 ?_
                 refine zp 35 106 ?_
                 refine zp 36 107 ?_
                 refine zp 39 110 ?_
                 refine zp 41 112 ?_
                 refine zt 37 108 ?_
                 refine zt 40 111 ?_
                 refine zt 42 113 ?_
                 refine zp 43 114 ?_
                 refine zo 38 (some 109) fun K hK => ?_
                 refine goes_ Tryd.func8 (by kernel_rfl) rfl #[.slice Ao135 t426.length co135, .agg #[.int .i64 t399, .int .i64 t400, .int .i64 t401, .slice Ao37 y417.length co37]] (by rfl) rfl rfl zM ?_
                 with_reducible refine (impl_InRange.calls kj12 _ _ t426 t399 t400 t401 _ _ y417 t441 _ ?side1 ?side2 ?side3 ?side4 A116.out).mono ?_
                 (case side1 => repeat (first | exact (Kd.N_reads' HO_8.out).2.2 | (with_reducible refine Kd.C_alloc ?_ _) | (with_reducible refine Kd.C_drewN ?_ _) | (with_reducible refine Kd.C_drew ?_)))
                 (case side2 => exact (Kd.N_reads' HO_8.out).2.1)
                 (case side3 => repeat (first | exact (Kd.R_reads' HO_413003.out).2.2 | (with_reducible refine Kd.C_alloc ?_ _) | (with_reducible refine Kd.C_drewN ?_ _) | (with_reducible refine Kd.C_drew ?_)))
                 (case side4 => exact (Kd.R_reads' HO_413003.out).2.1)
                 rintro e w138 ⟨rfl, hb⟩
                 refine ⟨_, rfl, ?_⟩
                 replace HO_6 := zA (Kd.N_below (zN HO_6.out) hb)
                 replace HO_8 := zA (Kd.N_below (zN HO_8.out) hb)
                 replace HO_10 := zA (Kd.N_below (zN HO_10.out) hb)
                 replace HO_412003 := zr HO_412003 hb
                 replace HO_413003 := zr HO_413003 hb
                 replace HO_414003 := zr HO_414003 hb
                 replace BK411 := zb BK411 hb
                 replace BK412 := zb BK412 hb
                 replace BK413 := zb BK413 hb
                 replace HB := zh HB hb
                 (try clear hb)
                 refine hK.out _ _ ⟨(blk_cell BK412.out 0).trans rfl, (blk_cell BK412.out 1).trans rfl, (blk_cell BK412.out 2).trans rfl, (blk_cell BK412.out 3).trans rfl, (blk_cell BK411.out 0).trans rfl, (blk_cell BK411.out 1).trans rfl, (blk_cell BK411.out 2).trans rfl, (blk_cell BK411.out 3).trans rfl⟩ (fun hHeld => ?_)
                 clear hK K
                 refine zn ?_
                 refine zp 44 115 ?_
                 refine zp 45 116 ?_
                 refine zp 47 118 ?_
                 refine zt 46 117 ?_
                 refine zt 48 119 ?_
                 refine zp 49 120 ?_
                 refine zp 50 121 ?_
                 refine zp 51 122 ?_
                 refine zu 52 123 ?_
                 refine zu 53 124 ?_
                 refine zu 54 125 ?_
                 refine zu 55 126 ?_
                 refine zp 56 127 ?_
                 refine zp 57 128 ?_
                 refine zp 58 129 ?_
                 refine zp 59 2 ?_
                 refine done_ (done_of HT_.out (by kernel_rfl)) ?_
                 try go_wp2
                 go_ret
                 exact ⟨zE, zW HB.out⟩
               ·rw [if_neg c117] at H
                have c117b0 : (t393 == t399) = false := beq_eq_false_iff_ne.mpr c117
                have c117b1 : (t393 != t399) = true := bne_iff_ne.mpr c117
                obtain rfl := Option.some.inj H
                try go_wp2
                replace HO_6 := zA (Kd.N_drew HO_6.out)
                replace HO_8 := zA (Kd.N_drew HO_8.out)
                replace HO_10 := zA (Kd.N_drew HO_10.out)
                replace HO_412003 := zA (Kd.R_drew HO_412003.out)
                replace HO_413003 := zA (Kd.R_drew HO_413003.out)
                replace HO_414003 := zA (Kd.R_drew HO_414003.out)
                replace BK411 := zA (blk_drew BK411.out)
                replace BK412 := zA (blk_drew BK412.out)
                replace BK413 := zA (blk_drew BK413.out)
                replace HB := zA (below_drew1 HB.out)
                obtain ⟨Ao140, co140, eo140⟩ := Kd.N_slice HO_10.out
                (first | subst eo140 | (injection eo140 with f1_ f2_ f3_; have f4_ := f1_.symm; have f5_ := f3_.symm; clear f1_ f2_ f3_; subst f4_; subst f5_))
                refine start_ (n := 60) (S := fun w' => w'.cell? ⟨gb412, 0, none⟩ = some (.int .i64 t399) ∧ w'.cell? ⟨gb412, 1, none⟩ = some (.int .i64 t400) ∧ w'.cell? ⟨gb412, 2, none⟩ = some (.int .i64 t401) ∧ w'.cell? ⟨gb412, 3, none⟩ = some (.slice Ao37 y417.length co37) ∧ w'.cell? ⟨gb411, 0, none⟩ = some (.int .i64 t393) ∧ w'.cell? ⟨gb411, 1, none⟩ = some (.int .i64 t394) ∧ w'.cell? ⟨gb411, 2, none⟩ = some (.int .i64 t395) ∧ w'.cell? ⟨gb411, 3, none⟩ = some (.slice Ao32 y414.length co32)) (ds := []) (Array.replicate 60 false) (by kernel_rfl) rfl rfl ⟨(blk_cell BK412.out 0).trans rfl, (blk_cell BK412.out 1).trans rfl, (blk_cell BK412.out 2).trans rfl, (blk_cell BK412.out 3).trans rfl, (blk_cell BK411.out 0).trans rfl, (blk_cell BK411.out 1).trans rfl, (blk_cell BK411.out 2).trans rfl, (blk_cell BK411.out 3).trans rfl⟩ (fun hHeld => ?_); refine with_tabW laws_FnCarets.tab12 laws_FnCarets.bits12 (fun HT_ HW_ => ?_)
                generalize wc.drew = w139 at HO_6 HO_8 HO_10 HO_412003 HO_413003 HO_414003 BK411 BK412 BK413 HB hHeld ⊢
                refine zp 0 71 ?_
                refine zp 1 72 ?_
                refine zp 2 73 ?_
                refine zp 3 74 ?_
                refine zp 4 75 ?_
                refine zp 5 76 ?_
                refine zp 6 77 ?_
                refine zp 7 78 ?_
                refine zp 8 79 ?_
                refine zt 9 80 ?_
                refine zo 10 (some 81) fun K hK => ?_
                refine goes_ Tryd.func8 (by kernel_rfl) rfl #[.slice Ao140 t430.length co140, .agg #[.int .i64 t399, .int .i64 t400, .int .i64 t401, .slice Ao37 y417.length co37]] (by rfl) rfl rfl zM ?_
                with_reducible refine (impl_InRange.calls kj12 _ _ t430 t399 t400 t401 _ _ y417 true _ ?side1 ?side2 ?side3 ?side4 A70.out).mono ?_
                (case side1 => repeat (first | exact (Kd.N_reads' HO_10.out).2.2 | (with_reducible refine Kd.C_alloc ?_ _) | (with_reducible refine Kd.C_drewN ?_ _) | (with_reducible refine Kd.C_drew ?_)))
                (case side2 => exact (Kd.N_reads' HO_10.out).2.1)
                (case side3 => repeat (first | exact (Kd.R_reads' HO_413003.out).2.2 | (with_reducible refine Kd.C_alloc ?_ _) | (with_reducible refine Kd.C_drewN ?_ _) | (with_reducible refine Kd.C_drew ?_)))
                (case side4 => exact (Kd.R_reads' HO_413003.out).2.1)
                rintro e w141 ⟨rfl, hb⟩
                refine ⟨_, rfl, ?_⟩
                replace HO_6 := zA (Kd.N_below (zN HO_6.out) hb)
                replace HO_8 := zA (Kd.N_below (zN HO_8.out) hb)
                replace HO_10 := zA (Kd.N_below (zN HO_10.out) hb)
                replace HO_412003 := zr HO_412003 hb
                replace HO_413003 := zr HO_413003 hb
                replace HO_414003 := zr HO_414003 hb
                replace BK411 := zb BK411 hb
                replace BK412 := zb BK412 hb
                replace BK413 := zb BK413 hb
                replace HB := zh HB hb
                (try clear hb)
                obtain ⟨Ao142, co142, eo142⟩ := Kd.N_slice HO_6.out
                (first | subst eo142 | (injection eo142 with f1_ f2_ f3_; have f4_ := f1_.symm; have f5_ := f3_.symm; clear f1_ f2_ f3_; subst f4_; subst f5_))
                refine hK.out _ _ ⟨(blk_cell BK412.out 0).trans rfl, (blk_cell BK412.out 1).trans rfl, (blk_cell BK412.out 2).trans rfl, (blk_cell BK412.out 3).trans rfl, (blk_cell BK411.out 0).trans rfl, (blk_cell BK411.out 1).trans rfl, (blk_cell BK411.out 2).trans rfl, (blk_cell BK411.out 3).trans rfl⟩ (fun hHeld => ?_)
                clear hK K
                refine zn ?_
                refine zp 11 82 ?_
                refine zp 12 83 ?_
                refine zp 13 84 ?_
                refine zt 14 85 ?_
                refine zo 15 (some 86) fun K hK => ?_
                refine goes_ Tryd.func8 (by kernel_rfl) rfl #[.slice Ao142 t421.length co142, .agg #[.int .i64 t393, .int .i64 t394, .int .i64 t395, .slice Ao32 y414.length co32]] (by rfl) rfl rfl zM ?_
                with_reducible refine (impl_InRange.calls kj12 _ _ t421 t393 t394 t395 _ _ y414 true _ ?side1 ?side2 ?side3 ?side4 A72.out).mono ?_
                (case side1 => repeat (first | exact (Kd.N_reads' HO_6.out).2.2 | (with_reducible refine Kd.C_alloc ?_ _) | (with_reducible refine Kd.C_drewN ?_ _) | (with_reducible refine Kd.C_drew ?_)))
                (case side2 => exact (Kd.N_reads' HO_6.out).2.1)
                (case side3 => repeat (first | exact (Kd.R_reads' HO_412003.out).2.2 | (with_reducible refine Kd.C_alloc ?_ _) | (with_reducible refine Kd.C_drewN ?_ _) | (with_reducible refine Kd.C_drew ?_)))
                (case side4 => exact (Kd.R_reads' HO_412003.out).2.1)
                rintro e w143 ⟨rfl, hb⟩
                refine ⟨_, rfl, ?_⟩
                replace HO_6 := zA (Kd.N_below (zN HO_6.out) hb)
                replace HO_8 := zA (Kd.N_below (zN HO_8.out) hb)
                replace HO_10 := zA (Kd.N_below (zN HO_10.out) hb)
                replace HO_412003 := zr HO_412003 hb
                replace HO_413003 := zr HO_413003 hb
                replace HO_414003 := zr HO_414003 hb
                replace BK411 := zb BK411 hb
                replace BK412 := zb BK412 hb
                replace BK413 := zb BK413 hb
                replace HB := zh HB hb
                (try clear hb)
                obtain ⟨Ao144, co144, eo144⟩ := Kd.N_slice HO_8.out
                (first | subst eo144 | (injection eo144 with f1_ f2_ f3_; have f4_ := f1_.symm; have f5_ := f3_.symm; clear f1_ f2_ f3_; subst f4_; subst f5_))
                refine hK.out _ _ ⟨(blk_cell BK412.out 0).trans rfl, (blk_cell BK412.out 1).trans rfl, (blk_cell BK412.out 2).trans rfl, (blk_cell BK412.out 3).trans rfl, (blk_cell BK411.out 0).trans rfl, (blk_cell BK411.out 1).trans rfl, (blk_cell BK411.out 2).trans rfl, (blk_cell BK411.out 3).trans rfl⟩ (fun hHeld => ?_)
                clear hK K
                refine zn ?_
                refine zp 16 87 ?_
                refine zp 17 88 ?_
                refine zp 18 89 ?_
                refine zt 19 90 ?_
                refine zo 20 (some 91) fun K hK => ?_
                refine goes_ Tryd.func8 (by kernel_rfl) rfl #[.slice Ao144 t426.length co144, .agg #[.int .i64 t393, .int .i64 t394, .int .i64 t395, .slice Ao32 y414.length co32]] (by rfl) rfl rfl zM ?_
                with_reducible refine (impl_InRange.calls kj12 _ _ t426 t393 t394 t395 _ _ y414 true _ ?side1 ?side2 ?side3 ?side4 A74.out).mono ?_
                (case side1 => repeat (first | exact (Kd.N_reads' HO_8.out).2.2 | (with_reducible refine Kd.C_alloc ?_ _) | (with_reducible refine Kd.C_drewN ?_ _) | (with_reducible refine Kd.C_drew ?_)))
                (case side2 => exact (Kd.N_reads' HO_8.out).2.1)
                (case side3 => repeat (first | exact (Kd.R_reads' HO_412003.out).2.2 | (with_reducible refine Kd.C_alloc ?_ _) | (with_reducible refine Kd.C_drewN ?_ _) | (with_reducible refine Kd.C_drew ?_)))
                (case side4 => exact (Kd.R_reads' HO_412003.out).2.1)
                rintro e w145 ⟨rfl, hb⟩
                refine ⟨_, rfl, ?_⟩
                replace HO_6 := zA (Kd.N_below (zN HO_6.out) hb)
                replace HO_8 := zA (Kd.N_below (zN HO_8.out) hb)
                replace HO_10 := zA (Kd.N_below (zN HO_10.out) hb)
                replace HO_412003 := zr HO_412003 hb
                replace HO_413003 := zr HO_413003 hb
                replace HO_414003 := zr HO_414003 hb
                replace BK411 := zb BK411 hb
                replace BK412 := zb BK412 hb
                replace BK413 := zb BK413 hb
                replace HB := zh HB hb
                (try clear hb)
                refine hK.out _ _ ⟨(blk_cell BK412.out 0).trans rfl, (blk_cell BK412.out 1).trans rfl, (blk_cell BK412.out 2).trans rfl, (blk_cell BK412.out 3).trans rfl, (blk_cell BK411.out 0).trans rfl, (blk_cell BK411.out 1).trans rfl, (blk_cell BK411.out 2).trans rfl, (blk_cell BK411.out 3).trans rfl⟩ (fun hHeld => ?_)
                clear hK K
                refine zn ?_
                refine zp 21 92 ?_
                refine zp 22 93 ?_
                refine zp 23 94 ?_
                refine zp 26 97 ?_
                refine zt 24 95 ?_
                refine zo 25 (some 96) fun K hK => ?_
                refine goes_ Tryd.func8 (by kernel_rfl) rfl #[.slice Ao142 t421.length co142, .agg #[.int .i64 t399, .int .i64 t400, .int .i64 t401, .slice Ao37 y417.length co37]] (by rfl) rfl rfl zM ?_
                with_reducible refine (impl_InRange.calls kj12 _ _ t421 t399 t400 t401 _ _ y417 t437 _ ?side1 ?side2 ?side3 ?side4 A76.out).mono ?_
                (case side1 => repeat (first | exact (Kd.N_reads' HO_6.out).2.2 | (with_reducible refine Kd.C_alloc ?_ _) | (with_reducible refine Kd.C_drewN ?_ _) | (with_reducible refine Kd.C_drew ?_)))
                (case side2 => exact (Kd.N_reads' HO_6.out).2.1)
                (case side3 => repeat (first | exact (Kd.R_reads' HO_413003.out).2.2 | (with_reducible refine Kd.C_alloc ?_ _) | (with_reducible refine Kd.C_drewN ?_ _) | (with_reducible refine Kd.C_drew ?_)))
                (case side4 => exact (Kd.R_reads' HO_413003.out).2.1)
                rintro e w146 ⟨rfl, hb⟩
                refine ⟨_, rfl, ?_⟩
                replace HO_6 := zA (Kd.N_below (zN HO_6.out) hb)
                replace HO_8 := zA (Kd.N_below (zN HO_8.out) hb)
                replace HO_10 := zA (Kd.N_below (zN HO_10.out) hb)
                replace HO_412003 := zr HO_412003 hb
                replace HO_413003 := zr HO_413003 hb
                replace HO_414003 := zr HO_414003 hb
                replace BK411 := zb BK411 hb
                replace BK412 := zb BK412 hb
                replace BK413 := zb BK413 hb
                replace HB := zh HB hb
                (try clear hb)
                refine hK.out _ _ ⟨(blk_cell BK412.out 0).trans rfl, (blk_cell BK412.out 1).trans rfl, (blk_cell BK412.out 2).trans rfl, (blk_cell BK412.out 3).trans rfl, (blk_cell BK411.out 0).trans rfl, (blk_cell BK411.out 1).trans rfl, (blk_cell BK411.out 2).trans rfl, (blk_cell BK411.out 3).trans rfl⟩ (fun hHeld => ?_)
                clear hK K
                refine zn ?_
                refine zp 27 98 ?_
                refine zu 28 99 ?_
                refine zu 29 100 ?_
                refine zu 30 101 ?_
                refine zu 31 102 ?_
                refine zp 32 103 ?_
                refine zp 33 104 ?_
                refine zp 34 105 ?_
                refine zp 35 106 ?_
                refine zp 36 107 ?_
                refine zp 39 110 ?_
                refine zp 41 112 ?_
                refine zt 37 108 ?_
                refine zt 40 111 ?_
                refine zt 42 113 ?_
                refine zp 43 114 ?_
                refine zo 38 (some 109) fun K hK => ?_
                refine goes_ Tryd.func8 (by kernel_rfl) rfl #[.slice Ao144 t426.length co144, .agg #[.int .i64 t399, .int .i64 t400, .int .i64 t401, .slice Ao37 y417.length co37]] (by rfl) rfl rfl zM ?_
                with_reducible refine (impl_InRange.calls kj12 _ _ t426 t399 t400 t401 _ _ y417 t441 _ ?side1 ?side2 ?side3 ?side4 A116.out).mono ?_
                (case side1 => repeat (first | exact (Kd.N_reads' HO_8.out).2.2 | (with_reducible refine Kd.C_alloc ?_ _) | (with_reducible refine Kd.C_drewN ?_ _) | (with_reducible refine Kd.C_drew ?_)))
                (case side2 => exact (Kd.N_reads' HO_8.out).2.1)
                (case side3 => repeat (first | exact (Kd.R_reads' HO_413003.out).2.2 | (with_reducible refine Kd.C_alloc ?_ _) | (with_reducible refine Kd.C_drewN ?_ _) | (with_reducible refine Kd.C_drew ?_)))
                (case side4 => exact (Kd.R_reads' HO_413003.out).2.1)
                rintro e w147 ⟨rfl, hb⟩
                refine ⟨_, rfl, ?_⟩
                replace HO_6 := zA (Kd.N_below (zN HO_6.out) hb)
                replace HO_8 := zA (Kd.N_below (zN HO_8.out) hb)
                replace HO_10 := zA (Kd.N_below (zN HO_10.out) hb)
                replace HO_412003 := zr HO_412003 hb
                replace HO_413003 := zr HO_413003 hb
                replace HO_414003 := zr HO_414003 hb
                replace BK411 := zb BK411 hb
                replace BK412 := zb BK412 hb
                replace BK413 := zb BK413 hb
                replace HB := zh HB hb
                (try clear hb)
                refine hK.out _ _ ⟨(blk_cell BK412.out 0).trans rfl, (blk_cell BK412.out 1).trans rfl, (blk_cell BK412.out 2).trans rfl, (blk_cell BK412.out 3).trans rfl, (blk_cell BK411.out 0).trans rfl, (blk_cell BK411.out 1).trans rfl, (blk_cell BK411.out 2).trans rfl, (blk_cell BK411.out 3).trans rfl⟩ (fun hHeld => ?_)
                clear hK K
                refine zn ?_
                refine zp 44 115 ?_
                refine zu 45 116 ?_
                refine zu 46 117 ?_
                refine zu 47 118 ?_
                refine zu 48 119 ?_
                refine zu 49 120 ?_
                refine zp 50 121 ?_
                refine zp 51 122 ?_
                refine zu 52 123 ?_
                refine zu 53 124 ?_
                refine zu 54 125 ?_
                refine zu 55 126 ?_
                refine zp 56 127 ?_
                refine zp 57 128 ?_
                refine zp 58 129 ?_
                refine zp 59 2 ?_
                refine done_ (done_of HT_.out (by kernel_rfl)) ?_
                try go_wp2
                go_ret
                exact ⟨zE, zW HB.out⟩
              ·rw [if_neg c115] at H
               have c115b0 : (t437 == false) = false := by simpa using c115
               (try (have c115b1 : decide (t437 = false) = false := by simpa using c115))
               (try (have c115b2 : (t437 == false) = false := by simpa using c115))
               (try (have c115b3 : ¬ (t437 = false) := by simpa using c115))
               clear c115
               exact absurd H (by simp)
            ·replace c75 := Bool.eq_false_iff.mpr c75
             subst c75
             rw [if_neg zFT] at H
             exact absurd H (by simp)
           ·replace c73 := Bool.eq_false_iff.mpr c73
            subst c73
            rw [if_neg zFT] at H
            exact absurd H (by simp)
          ·replace c71 := Bool.eq_false_iff.mpr c71
           subst c71
           rw [if_neg zFT] at H
           exact absurd H (by simp)
         ·replace c69 := Bool.eq_false_iff.mpr c69
          subst c69
          rw [if_neg zFT] at H
          exact absurd H (by simp)
        ·replace c68 := Bool.eq_false_iff.mpr c68
         subst c68
         rw [if_neg zFT] at H
         exact absurd H (by simp)
       ·replace c67 := Bool.eq_false_iff.mpr c67
        subst c67
        rw [if_neg zFT] at H
        exact absurd H (by simp)
    ·rw [if_neg c10] at H
     exact absurd H (by simp)
   ·rw [if_neg c7] at H
    exact absurd H (by simp)
end Go.Proofs.YtpcdhoeoefoeoaaDoor.PGA
