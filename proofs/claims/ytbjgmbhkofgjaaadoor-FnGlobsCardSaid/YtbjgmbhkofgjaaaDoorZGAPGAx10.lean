/- The walks of the functions that these laws reach, and what each comes to: printed by this session's program. -/
import Derived.Test.YtbjgmbhkofgjaaaDoorZGAPGAx0
import Derived.Test.YtbjgmbhkofgjaaaDoorZGAPGAx3
import Derived.Test.YtbjgmbhkofgjaaaDoorZGAPGAx9
import Derived.Test.YtbjgmbhkofgjaaaDoorZGASays
namespace Go.Proofs.YtbjgmbhkofgjaaaDoor.PGA
open Go.RowKit Go.Proofs.YtbjgmbhkofgjaaaDoorW.PrintWords Go.Proofs.YtbjgmbhkofgjaaaDoorW.PrintLast Go.Proofs.YtbjgmbhkofgjaaaDoorW.PrintMore
attribute [local go_sem high] Go.Proofs.YtbjgmbhkofgjaaaDoor.Mine.str_gtr Go.Proofs.YtbjgmbhkofgjaaaDoor.Mine.str_leq Go.Proofs.YtbjgmbhkofgjaaaDoor.Mine.str_geq
attribute [local go_sem] max2_int min2_int max_two min_two max_three min_three max_four min_four   -- for this text's walks alone
set_option linter.unusedVariables false
set_option maxHeartbeats 8000000
set_option maxRecDepth 100000
set_option linter.unusedSimpArgs false
/-! ### spec_GlobOk: function 25 -/
def spec_GlobOk.l0 : Nat → List ByteArray → Int → Option (Bool)
 | 0, _, _ => none
 | k + 1, x3, x4 => if x4 < (x3.length : Int) then (if 0 ≤ x4 then (if (rdOf ByteArray.empty x3 x4).toList = ([42, 42] : List UInt8) then (spec_GlobOk.l0 k x3 (wrap64 (x4 + 1))) else ((spec_l6Piece.f k (rdOf ByteArray.empty x3 x4)).bind fun t381 => (if t381 = true then (spec_GlobOk.l0 k x3 (wrap64 (x4 + 1))) else (some false)))) else (none)) else (some (decide ((x3.length : Int) ≤ 4)))
def spec_GlobOk.f (k : Nat) (a0 : ByteArray) : Option (Bool) := (spec_Split.f k a0 47).bind fun t376 => (spec_GlobOk.l0 k t376 0)
theorem spec_GlobOk.calls (k : Nat) (a0 : ByteArray) (r : Bool) (w : World) (h : spec_GlobOk.f k a0 = some r) :
  Calls Tryd.prog 25 #[.string a0] w fun e w' => e = .returned (.bool r) ∧ Below w.heap.size w w' := by
 have HB := Aside0.mk (Below.refl w.heap.size w)
 have H : ((spec_Split.f k a0 47).bind fun t376 => (spec_GlobOk.l0 k t376 0)) = some r := h
 clear h
 replace H := Option.bind_eq_some_iff.mp H
 obtain ⟨t376, A20, H⟩ := H
 replace H : (spec_GlobOk.l0 k t376 0) = some r := H
 have A2 := Aside0.mk A20
 clear A20
 have H' := Aside0.mk H
 clear H
 go_enter Tryd.func25, Tryd.ntmps25
 go_wp2_with (first | ((with_reducible refine gate_callee (f := 37) rfl ?_); refine goesL_ (some 6) rfl rfl Tryd.func37 (by kernel_rfl) rfl #[.string a0, .int .u8 47] rfl zM ?_; (with_reducible refine (spec_Split.calls k a0 47 t376 _ A2.out).mono ?_); rintro e w3 ⟨v377, rfl, ho0, hb⟩; refine ⟨_, rfl, ?_⟩; have n0_ := Aside0.mk (Kd.R_lower ho0 (below_size (zB))); have n1_ := Aside0.mk (below_step (zB) hb); clear HB; have HO378 := n0_; have HB := n1_; clear n0_ n1_; (try clear hb); (try clear hb2); (try clear hk); (try clear hi); (try clear ho0)))
 go_loopg [4] k (fun kq v4 w' => ∃ (x4_1 : Int), v4 = .int .i64 x4_1 ∧ Aside0 (spec_GlobOk.l0 kq t376 x4_1 = some r) ∧ Aside0 (kq ≤ k) ∧ Aside0 (Kd.R Kd.string 9 w' w.heap.size (fun _ => True) v377 t376) ∧ Aside0 (Below w.heap.size w w'))
 case atStart => exact ⟨(0), zS, H', ⟨Nat.le_refl _⟩, ⟨by (with_reducible repeat (first | apply Kd.R_alloc | apply Kd.R_drewN | apply Kd.R_drew)); exact HO378.out⟩, ⟨zB⟩⟩
 case round =>
  clear H'
  try clear c2
  try clear p2
  try clear c3
  obtain ⟨x4_1, rfl, HA, HK1, HO_3, HB⟩ := hrel
  cases gk with
  | zero => exact absurd HA.out (by simp [spec_GlobOk.l0])
  | succ k1 =>
   have H := HA.out
   clear HA
   simp only [spec_GlobOk.l0] at H
   by_cases c4 : x4_1 < (t376.length : Int)
   ·rw [if_pos c4] at H
    have c4b0 : decide (x4_1 < (t376.length : Int)) = true := decide_eq_true c4
    clear c4
    by_cases c5 : 0 ≤ x4_1
    ·rw [if_pos c5] at H
     have c5b0 : decide (0 ≤ x4_1) = true := decide_eq_true c5
     clear c5
     by_cases c6 : (rdOf ByteArray.empty t376 x4_1).toList = ([42, 42] : List UInt8)
     ·rw [if_pos c6] at H
      have c6b0 : ((rdOf ByteArray.empty t376 x4_1).toList == ([42, 42] : List UInt8)) = true := beq_iff_eq.mpr c6
      have c6b1 : ((rdOf ByteArray.empty t376 x4_1).toList != ([42, 42] : List UInt8)) = false := bne_eq_false_iff_eq.mpr c6
      clear c6
      have H' := Aside0.mk H
      clear H
      obtain ⟨Ao7, co7, eo7⟩ := Kd.R_slice HO_3.out
      subst eo7
      have p379 : 0 ≤ (x4_1 : Int) := zD
      have q379 : x4_1 < (t376.length : Int) := zD
      obtain ⟨ad379, e379, hx379_0⟩ := Kd.at_string (Kd.R_reads' HO_3.out).2.2 x4_1 p379 q379
      cases e379
      replace p379 := eq_true p379
      replace q379 := eq_true q379
      go_wp2
      go_roundg k1
      case measure => have := HK1.out; omega
      case rel => exact ⟨(wrap64 (x4_1 + 1)), zS, H', ⟨by have := HK1.out; omega⟩, ⟨by (with_reducible repeat (first | apply Kd.R_alloc | apply Kd.R_drewN | apply Kd.R_drew)); exact HO_3.out⟩, ⟨zB⟩⟩
     ·rw [if_neg c6] at H
      have c6b0 : ((rdOf ByteArray.empty t376 x4_1).toList == ([42, 42] : List UInt8)) = false := beq_eq_false_iff_ne.mpr c6
      have c6b1 : ((rdOf ByteArray.empty t376 x4_1).toList != ([42, 42] : List UInt8)) = true := bne_iff_ne.mpr c6
      replace H := Option.bind_eq_some_iff.mp H
      obtain ⟨t381, A80, H⟩ := H
      replace H : (if t381 = true then (spec_GlobOk.l0 k1 t376 (wrap64 (x4_1 + 1))) else (some false)) = some r := H
      have A8 := Aside0.mk A80
      clear A80
      by_cases c9 : t381 = true
      ·subst c9
       have H1 : (spec_GlobOk.l0 k1 t376 (wrap64 (x4_1 + 1))) = some r := by rw [if_pos rfl] at H; exact H
       clear H
       have H := H1
       clear H1
       have H' := Aside0.mk H
       clear H
       obtain ⟨Ao10, co10, eo10⟩ := Kd.R_slice HO_3.out
       subst eo10
       have p379 : 0 ≤ (x4_1 : Int) := zD
       have q379 : x4_1 < (t376.length : Int) := zD
       obtain ⟨ad379, e379, hx379_0⟩ := Kd.at_string (Kd.R_reads' HO_3.out).2.2 x4_1 p379 q379
       cases e379
       replace p379 := eq_true p379
       replace q379 := eq_true q379
       have p380 : 0 ≤ (x4_1 : Int) := zD
       have q380 : x4_1 < (t376.length : Int) := zD
       obtain ⟨ad380, e380, hx380_0⟩ := Kd.at_string (Kd.R_reads' HO_3.out).2.2 x4_1 p380 q380
       obtain rfl : ad379 = ad380 := (by injection e380)
       replace p380 := eq_true p380
       replace q380 := eq_true q380
       go_wp2_with (first | (go_at_call 55; (with_reducible refine (spec_l6Piece.calls k1 (rdOf ByteArray.empty t376 x4_1) true _ A8.out).mono ?_); rintro e w' ⟨rfl, ⟨nd, rfl⟩⟩))
       go_roundg k1
       case measure => have := HK1.out; omega
       case rel => exact ⟨(wrap64 (x4_1 + 1)), zS, H', ⟨by have := HK1.out; omega⟩, ⟨by (with_reducible repeat (first | apply Kd.R_alloc | apply Kd.R_drewN | apply Kd.R_drew)); exact HO_3.out⟩, ⟨zB⟩⟩
      ·replace c9 := Bool.eq_false_iff.mpr c9
       subst c9
       have H1 : (some false) = some r := by rw [if_neg (show ¬ (false = true) by decide)] at H; exact H
       clear H
       have H := H1
       clear H1
       obtain rfl := Option.some.inj H
       obtain ⟨Ao11, co11, eo11⟩ := Kd.R_slice HO_3.out
       subst eo11
       have p379 : 0 ≤ (x4_1 : Int) := zD
       have q379 : x4_1 < (t376.length : Int) := zD
       obtain ⟨ad379, e379, hx379_0⟩ := Kd.at_string (Kd.R_reads' HO_3.out).2.2 x4_1 p379 q379
       cases e379
       replace p379 := eq_true p379
       replace q379 := eq_true q379
       have p380 : 0 ≤ (x4_1 : Int) := zD
       have q380 : x4_1 < (t376.length : Int) := zD
       obtain ⟨ad380, e380, hx380_0⟩ := Kd.at_string (Kd.R_reads' HO_3.out).2.2 x4_1 p380 q380
       obtain rfl : ad379 = ad380 := (by injection e380)
       replace p380 := eq_true p380
       replace q380 := eq_true q380
       go_wp2_with (first | (go_at_call 55; (with_reducible refine (spec_l6Piece.calls k1 (rdOf ByteArray.empty t376 x4_1) false _ A8.out).mono ?_); rintro e w' ⟨rfl, ⟨nd, rfl⟩⟩))
       go_ret
       exact ⟨zE, zB⟩
    ·rw [if_neg c5] at H
     exact absurd H (by simp)
   ·rw [if_neg c4] at H
    have c4b0 : decide (x4_1 < (t376.length : Int)) = false := decide_eq_false c4
    clear c4
    obtain rfl := Option.some.inj H
    obtain ⟨Ao12, co12, eo12⟩ := Kd.R_slice HO_3.out
    subst eo12
    go_wp2
    go_ret
    exact ⟨zE, zB⟩
/-! ### spec_l6Takes: function 95 -/
mutual
def spec_l6Takes.j0 : Nat → ByteArray → Int → Bool → Option (Bool)
 | 0, _, _, _ => none
 | k + 1, x0, x1, x5 => spec_l6Takes.l0 k x0 x1 x5 0
def spec_l6Takes.l0 : Nat → ByteArray → Int → Bool → Int → Option (Bool)
 | 0, _, _, _, _ => none
 | k + 1, x0, x1, x5, x6 => if x6 < (x0.size : Int) then (if 0 ≤ x6 then (if (bt x0 x6) = x1 then (if x1 = 33 then (spec_l6Takes.l0 k x0 x1 x5 (wrap64 (x6 + 1))) else (some (!x5))) else (spec_l6Takes.l0 k x0 x1 x5 (wrap64 (x6 + 1)))) else (none)) else (some x5)
end
def spec_l6Takes.f (k : Nat) (a0 : ByteArray) (a1 : Int) : Option (Bool) := if (a0.size : Int) > 0 then (if 0 < (a0.size : Int) then (spec_l6Takes.j0 k a0 a1 ((bt a0 0) == 33)) else (none)) else (spec_l6Takes.j0 k a0 a1 false)
theorem spec_l6Takes.calls (k : Nat) (a0 : ByteArray) (a1 : Int) (r : Bool) (w : World) (h : spec_l6Takes.f k a0 a1 = some r) :
  Calls Tryd.prog 95 #[.string a0, .int .u8 a1] w fun e w' => e = .returned (.bool r) ∧ Drawn0 w w' := by
 have H : (if (a0.size : Int) > 0 then (if 0 < (a0.size : Int) then (spec_l6Takes.j0 k a0 a1 ((bt a0 0) == 33)) else (none)) else (spec_l6Takes.j0 k a0 a1 false)) = some r := h
 clear h
 have HC3 := Aside0.mk H
 clear H
 go_enter Tryd.func95, Tryd.ntmps95
 go_upto_region 1 with (fail)
 go_cut [5] (fun v5 wc => ∃ (kq : Nat) (x5_2 : Bool), v5 = .bool x5_2 ∧ Aside0 (spec_l6Takes.j0 kq a0 a1 x5_2 = some r) ∧ Aside0 (kq ≤ k) ∧ Drawn0 w wc)
 case first =>
  have H := HC3.out
  clear HC3
  by_cases c4 : (a0.size : Int) > 0
  ·rw [if_pos c4] at H
   have c4b0 : decide (0 < (a0.size : Int)) = true := decide_eq_true c4
   have c4b1 : decide (0 < a0.size) = true := decide_eq_true (by omega)
   clear c4
   (first | rw [c4b0] | (simp only [i64_w, i32_w]; rw [c4b0]) | skip)
   by_cases c5 : 0 < (a0.size : Int)
   ·rw [if_pos c5] at H
    have c5b0 : decide (0 < (a0.size : Int)) = true := decide_eq_true c5
    have c5b1 : decide (0 < a0.size) = true := decide_eq_true (by omega)
    clear c5
    have H' := Aside0.mk H
    clear H
    have p6 : 0 ≤ (0 : Int) := (by omega)
    have q6 : 0 < a0.size := (by have : (0 : Int) < (a0.size : Int) := zD; omega)
    have hx6 : ∀ h : 0 < a0.size, ((a0[0]'h).toNat : Int) = bt a0 0 := bt_at a0 0
    clear p6
    have qi6 : (0 < (a0.size : Int)) = True := eq_true (zD)
    replace q6 := eq_true q6
    go_wp2
    go_meet
    case rel => exact ⟨_, (((bt a0 0) == 33)), zS, (by first | exact H' | (subst_vars; exact H')), ⟨by first | omega | exact Nat.le_refl _⟩, by repeat (first | exact Drawn0.refl _ | apply Drawn0.step)⟩
   ·rw [if_neg c5] at H
    exact absurd H (by simp)
  ·rw [if_neg c4] at H
   have c4b0 : decide (0 < (a0.size : Int)) = false := decide_eq_false c4
   have c4b1 : decide (0 < a0.size) = false := decide_eq_false (by omega)
   clear c4
   (first | rw [c4b0] | (simp only [i64_w, i32_w]; rw [c4b0]) | skip)
   have H' := Aside0.mk H
   clear H
   go_wp2
   go_meet
   case rel => exact ⟨_, (false), zS, (by first | exact H' | (subst_vars; exact H')), ⟨by first | omega | exact Nat.le_refl _⟩, by repeat (first | exact Drawn0.refl _ | apply Drawn0.step)⟩
 case rest =>
  clear HC3
  try clear p2
  try clear c4
  try clear c4b0
  try clear c4b1
  try clear c5
  try clear c5b0
  try clear c5b1
  try clear p6
  try clear q6
  try clear hx6
  try clear qi6
  try clear p6
  try clear q6
  obtain ⟨kq, x5_2, rfl, HA, HJ2, ⟨mc2, rfl⟩⟩ := hcut
  cases kq with
  | zero => exact absurd HA.out (by simp [spec_l6Takes.j0])
  | succ kj2 =>
   have H := HA.out
   clear HA
   simp only [spec_l6Takes.j0] at H
   have H' := Aside0.mk H
   clear H
   go_wp2
   go_loopg [6] kj2 (fun kq v6 w' => ∃ (x6_2 : Int), v6 = .int .i64 x6_2 ∧ Aside0 (spec_l6Takes.l0 kq a0 a1 x5_2 x6_2 = some r) ∧ Aside0 (kq ≤ kj2) ∧ Drawn0 w w')
   case atStart => exact ⟨(0), zS, H', ⟨Nat.le_refl _⟩, by repeat (first | exact Drawn0.refl _ | apply Drawn0.step)⟩
   case round =>
    clear H'
    try clear c2
    try clear p2
    try clear c4
    try clear c4b0
    try clear c4b1
    try clear c5
    try clear c5b0
    try clear c5b1
    try clear p6
    try clear q6
    try clear hx6
    try clear qi6
    try clear p2
    try clear p6
    try clear q6
    obtain ⟨x6_2, rfl, HA, HK2, ⟨m2, rfl⟩⟩ := hrel
    cases gk with
    | zero => exact absurd HA.out (by simp [spec_l6Takes.l0])
    | succ k2 =>
     have H := HA.out
     clear HA
     simp only [spec_l6Takes.l0] at H
     by_cases c7 : x6_2 < (a0.size : Int)
     ·rw [if_pos c7] at H
      have c7b0 : decide (x6_2 < (a0.size : Int)) = true := decide_eq_true c7
      clear c7
      by_cases c8 : 0 ≤ x6_2
      ·rw [if_pos c8] at H
       have c8b0 : decide (0 ≤ x6_2) = true := decide_eq_true c8
       clear c8
       by_cases c10 : (bt a0 x6_2) = a1
       ·rw [if_pos c10] at H
        have c10b0 : ((bt a0 x6_2) == a1) = true := beq_iff_eq.mpr c10
        have c10b1 : ((bt a0 x6_2) != a1) = false := bne_eq_false_iff_eq.mpr c10
        clear c10
        by_cases c11 : a1 = 33
        ·rw [if_pos c11] at H
         have c11b0 : (a1 == 33) = true := beq_iff_eq.mpr c11
         have c11b1 : (a1 != 33) = false := bne_eq_false_iff_eq.mpr c11
         clear c11
         have H' := Aside0.mk H
         clear H
         have p9 : 0 ≤ (x6_2 : Int) := zD
         have q9 : x6_2 < (a0.size : Int) := zD
         have hx9 := bt_at a0 x6_2
         replace p9 := eq_true p9
         replace q9 := eq_true q9
         go_wp2
         go_roundg k2
         case measure => have := HJ2.out; have := HK2.out; omega
         case rel => exact ⟨(wrap64 (x6_2 + 1)), zS, H', ⟨by have := HJ2.out; have := HK2.out; omega⟩, by repeat (first | exact Drawn0.refl _ | apply Drawn0.step)⟩
        ·rw [if_neg c11] at H
         have c11b0 : (a1 == 33) = false := beq_eq_false_iff_ne.mpr c11
         have c11b1 : (a1 != 33) = true := bne_iff_ne.mpr c11
         obtain rfl := Option.some.inj H
         have p9 : 0 ≤ (x6_2 : Int) := zD
         have q9 : x6_2 < (a0.size : Int) := zD
         have hx9 := bt_at a0 x6_2
         replace p9 := eq_true p9
         replace q9 := eq_true q9
         go_wp2
         go_ret
         exact ⟨by first | rfl | (simp; done) | (simp [*]; done) | (simp; rw [Bool.eq_iff_iff]; simp; done), by repeat (first | exact Drawn0.refl _ | apply Drawn0.step)⟩
       ·rw [if_neg c10] at H
        have c10b0 : ((bt a0 x6_2) == a1) = false := beq_eq_false_iff_ne.mpr c10
        have c10b1 : ((bt a0 x6_2) != a1) = true := bne_iff_ne.mpr c10
        have H' := Aside0.mk H
        clear H
        have p9 : 0 ≤ (x6_2 : Int) := zD
        have q9 : x6_2 < (a0.size : Int) := zD
        have hx9 := bt_at a0 x6_2
        replace p9 := eq_true p9
        replace q9 := eq_true q9
        go_wp2
        go_roundg k2
        case measure => have := HJ2.out; have := HK2.out; omega
        case rel => exact ⟨(wrap64 (x6_2 + 1)), zS, H', ⟨by have := HJ2.out; have := HK2.out; omega⟩, by repeat (first | exact Drawn0.refl _ | apply Drawn0.step)⟩
      ·rw [if_neg c8] at H
       exact absurd H (by simp)
     ·rw [if_neg c7] at H
      have c7b0 : decide (x6_2 < (a0.size : Int)) = false := decide_eq_false c7
      clear c7
      obtain rfl := Option.some.inj H
      go_wp2
      go_ret
      exact ⟨by first | rfl | (simp; done) | (simp [*]; done) | (simp; rw [Bool.eq_iff_iff]; simp; done), by repeat (first | exact Drawn0.refl _ | apply Drawn0.step)⟩
end Go.Proofs.YtbjgmbhkofgjaaaDoor.PGA
