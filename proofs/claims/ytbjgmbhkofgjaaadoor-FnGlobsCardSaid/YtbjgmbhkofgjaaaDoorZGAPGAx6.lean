/- The walks of the functions that these laws reach, and what each comes to: printed by this session's program. -/
import Derived.Test.YtbjgmbhkofgjaaaDoorZGAPGAx0
import Derived.Test.YtbjgmbhkofgjaaaDoorZGAPGAx5
import Derived.Test.YtbjgmbhkofgjaaaDoorZGASays
namespace Go.Proofs.YtbjgmbhkofgjaaaDoor.PGA
open Go.RowKit Go.Proofs.YtbjgmbhkofgjaaaDoorW.PrintWords Go.Proofs.YtbjgmbhkofgjaaaDoorW.PrintLast Go.Proofs.YtbjgmbhkofgjaaaDoorW.PrintMore
attribute [local go_sem high] Go.Proofs.YtbjgmbhkofgjaaaDoor.Mine.str_gtr Go.Proofs.YtbjgmbhkofgjaaaDoor.Mine.str_leq Go.Proofs.YtbjgmbhkofgjaaaDoor.Mine.str_geq
attribute [local go_sem] max2_int min2_int max_two min_two max_three min_three max_four min_four   -- for this text's walks alone
set_option linter.unusedVariables false
set_option maxHeartbeats 8000000
set_option maxRecDepth 100000
set_option linter.unusedSimpArgs false
/-! ### impl_unitOf: function 81 -/
mutual
def impl_unitOf.j0 : Nat → ByteArray → Bool → Option (Int)
 | 0, _, _ => none
 | k + 1, x0, x17 => if x17 = true then (some 1) else (impl_unitOf.j1 k x0)
def impl_unitOf.j1 : Nat → ByteArray → Option (Int)
 | 0, _ => none
 | k + 1, x0 => if 0 < (x0.size : Int) then (if (bt x0 0) = 91 then (impl_unitOf.j2 k x0) else (some 0)) else (none)
def impl_unitOf.j2 : Nat → ByteArray → Option (Int)
 | 0, _ => none
 | k + 1, x0 => if 1 ≤ (x0.size : Int) then ((strings_HasPrefix.f (x0.extract 1 x0.size) (⟨#[33]⟩ : ByteArray)).bind fun t324 => (if t324 = true then (impl_unitOf.j3 k x0 (1 + 1)) else (impl_unitOf.j3 k x0 1))) else (none)
def impl_unitOf.j3 : Nat → ByteArray → Int → Option (Int)
 | 0, _, _ => none
 | k + 1, x0, x3 => impl_unitOf.l0 k x0 x3 x3
def impl_unitOf.l0 : Nat → ByteArray → Int → Int → Option (Int)
 | 0, _, _, _ => none
 | k + 1, x0, x3, x4 => if x3 < (x0.size : Int) then (if 0 ≤ x3 then ((impl_isSmall.f (bt x0 x3)).bind fun t325 => (if t325 = true then (impl_unitOf.l0 k x0 (wrap64 (x3 + 1)) x4) else ((impl_isFigure.f (bt x0 x3)).bind fun t326 => (if t326 = true then (impl_unitOf.l0 k x0 (wrap64 (x3 + 1)) x4) else ((impl_inRange.f (wrap64 (x3 - x4)) 1 5).bind fun t327 => (if t327 = true then (if x3 = (x0.size : Int) then (some 0) else (if (bt x0 x3) = 93 then (some (wrap64 (x3 + 1))) else (some 0))) else (some 0))))))) else (none)) else ((impl_inRange.f (wrap64 (x3 - x4)) 1 5).bind fun t328 => (if t328 = true then (if x3 = (x0.size : Int) then (some 0) else (if 0 ≤ x3 then (none) else (none))) else (some 0)))
end
def impl_unitOf.f (k : Nat) (a0 : ByteArray) : Option (Int) := if 0 < (a0.size : Int) then ((impl_isPathByte.f (bt a0 0)).bind fun t323 => (if t323 = true then (impl_unitOf.j0 k a0 true) else (if (bt a0 0) = 63 then (impl_unitOf.j0 k a0 true) else (impl_unitOf.j0 k a0 ((bt a0 0) == 42))))) else (none)
theorem impl_unitOf.calls (k : Nat) (a0 : ByteArray) (r : Int) (w : World) (h : impl_unitOf.f k a0 = some r) :
  Calls Tryd.prog 81 #[.string a0] w fun e w' => e = .returned (.int .i64 r) ∧ Drawn0 w w' := by
 have H : (if 0 < (a0.size : Int) then ((impl_isPathByte.f (bt a0 0)).bind fun t323 => (if t323 = true then (impl_unitOf.j0 k a0 true) else (if (bt a0 0) = 63 then (impl_unitOf.j0 k a0 true) else (impl_unitOf.j0 k a0 ((bt a0 0) == 42))))) else (none)) = some r := h
 clear h
 have HC2 := Aside0.mk H
 clear H
 go_enter Tryd.func81, Tryd.ntmps81
 go_upto_region 1 with (fail)
 go_cut [17] (fun v17 wc => ∃ (kq : Nat) (x17_1 : Bool), v17 = .bool x17_1 ∧ Aside0 (impl_unitOf.j0 kq a0 x17_1 = some r) ∧ Aside0 (kq ≤ k) ∧ Drawn0 w wc)
 case first =>
  have H := HC2.out
  clear HC2
  by_cases c3 : 0 < (a0.size : Int)
  ·rw [if_pos c3] at H
   have c3b0 : decide (0 < (a0.size : Int)) = true := decide_eq_true c3
   have c3b1 : decide (0 < a0.size) = true := decide_eq_true (by omega)
   clear c3
   (first | rw [c3b0] | (simp only [i64_w, i32_w]; rw [c3b0]) | skip)
   replace H := Option.bind_eq_some_iff.mp H
   obtain ⟨t323, A50, H⟩ := H
   replace H : (if t323 = true then (impl_unitOf.j0 k a0 true) else (if (bt a0 0) = 63 then (impl_unitOf.j0 k a0 true) else (impl_unitOf.j0 k a0 ((bt a0 0) == 42)))) = some r := H
   have A5 := Aside0.mk A50
   clear A50
   by_cases c6 : t323 = true
   ·subst c6
    have H1 : (impl_unitOf.j0 k a0 true) = some r := by rw [if_pos rfl] at H; exact H
    clear H
    have H := H1
    clear H1
    have H' := Aside0.mk H
    clear H
    have p4 : 0 ≤ (0 : Int) := (by omega)
    have q4 : 0 < a0.size := (by have : (0 : Int) < (a0.size : Int) := zD; omega)
    have hx4 : ∀ h : 0 < a0.size, ((a0[0]'h).toNat : Int) = bt a0 0 := bt_at a0 0
    clear p4
    have qi4 : (0 < (a0.size : Int)) = True := eq_true (zD)
    replace q4 := eq_true q4
    go_wp2_with (first | ((with_reducible refine gate_callee (f := 78) rfl ?_); refine goesL_ (some 7) rfl rfl Tryd.func78 (by kernel_rfl) rfl #[.int .u8 (bt a0 0)] rfl zM ?_; (with_reducible refine (impl_isPathByte.calls (bt a0 0) true _ A5.out).mono ?_); rintro e w' ⟨rfl, ⟨nd, rfl⟩⟩; refine ⟨_, rfl, ?_⟩))
    go_meet
    case rel => exact ⟨_, (true), zS, (by first | exact H' | (subst_vars; exact H')), ⟨by first | omega | exact Nat.le_refl _⟩, by repeat (first | exact Drawn0.refl _ | apply Drawn0.step)⟩
   ·replace c6 := Bool.eq_false_iff.mpr c6
    subst c6
    have H1 : (if (bt a0 0) = 63 then (impl_unitOf.j0 k a0 true) else (impl_unitOf.j0 k a0 ((bt a0 0) == 42))) = some r := by rw [if_neg (show ¬ (false = true) by decide)] at H; exact H
    clear H
    have H := H1
    clear H1
    by_cases c8 : (bt a0 0) = 63
    ·rw [if_pos c8] at H
     have c8b0 : ((bt a0 0) == 63) = true := beq_iff_eq.mpr c8
     have c8b1 : ((bt a0 0) != 63) = false := bne_eq_false_iff_eq.mpr c8
     clear c8
     have H' := Aside0.mk H
     clear H
     have p4 : 0 ≤ (0 : Int) := (by omega)
     have q4 : 0 < a0.size := (by have : (0 : Int) < (a0.size : Int) := zD; omega)
     have hx4 : ∀ h : 0 < a0.size, ((a0[0]'h).toNat : Int) = bt a0 0 := bt_at a0 0
     clear p4
     have qi4 : (0 < (a0.size : Int)) = True := eq_true (zD)
     replace q4 := eq_true q4
     go_wp2_with (first | ((with_reducible refine gate_callee (f := 78) rfl ?_); refine goesL_ (some 7) rfl rfl Tryd.func78 (by kernel_rfl) rfl #[.int .u8 (bt a0 0)] rfl zM ?_; (with_reducible refine (impl_isPathByte.calls (bt a0 0) false _ A5.out).mono ?_); rintro e w' ⟨rfl, ⟨nd, rfl⟩⟩; refine ⟨_, rfl, ?_⟩; have p7 : 0 ≤ (0 : Int) := (by omega); have q7 : 0 < a0.size := (by have : (0 : Int) < (a0.size : Int) := zD; omega); have hx7 : ∀ h : 0 < a0.size, ((a0[0]'h).toNat : Int) = bt a0 0 := bt_at a0 0; clear p7; have qi7 : (0 < (a0.size : Int)) = True := eq_true (zD); replace q7 := eq_true q7))
     go_meet
     case rel => exact ⟨_, (true), zS, (by first | exact H' | (subst_vars; exact H')), ⟨by first | omega | exact Nat.le_refl _⟩, by repeat (first | exact Drawn0.refl _ | apply Drawn0.step)⟩
    ·rw [if_neg c8] at H
     have c8b0 : ((bt a0 0) == 63) = false := beq_eq_false_iff_ne.mpr c8
     have c8b1 : ((bt a0 0) != 63) = true := bne_iff_ne.mpr c8
     have H' := Aside0.mk H
     clear H
     have p4 : 0 ≤ (0 : Int) := (by omega)
     have q4 : 0 < a0.size := (by have : (0 : Int) < (a0.size : Int) := zD; omega)
     have hx4 : ∀ h : 0 < a0.size, ((a0[0]'h).toNat : Int) = bt a0 0 := bt_at a0 0
     clear p4
     have qi4 : (0 < (a0.size : Int)) = True := eq_true (zD)
     replace q4 := eq_true q4
     go_wp2_with (first | ((with_reducible refine gate_callee (f := 78) rfl ?_); refine goesL_ (some 7) rfl rfl Tryd.func78 (by kernel_rfl) rfl #[.int .u8 (bt a0 0)] rfl zM ?_; (with_reducible refine (impl_isPathByte.calls (bt a0 0) false _ A5.out).mono ?_); rintro e w' ⟨rfl, ⟨nd, rfl⟩⟩; refine ⟨_, rfl, ?_⟩; have p7 : 0 ≤ (0 : Int) := (by omega); have q7 : 0 < a0.size := (by have : (0 : Int) < (a0.size : Int) := zD; omega); have hx7 : ∀ h : 0 < a0.size, ((a0[0]'h).toNat : Int) = bt a0 0 := bt_at a0 0; clear p7; have qi7 : (0 < (a0.size : Int)) = True := eq_true (zD); replace q7 := eq_true q7; have p9 : 0 ≤ (0 : Int) := (by omega); have q9 : 0 < a0.size := (by have : (0 : Int) < (a0.size : Int) := zD; omega); have hx9 : ∀ h : 0 < a0.size, ((a0[0]'h).toNat : Int) = bt a0 0 := bt_at a0 0; clear p9; have qi9 : (0 < (a0.size : Int)) = True := eq_true (zD); replace q9 := eq_true q9))
     go_meet
     case rel => exact ⟨_, (((bt a0 0) == 42)), zS, (by first | exact H' | (subst_vars; exact H')), ⟨by first | omega | exact Nat.le_refl _⟩, by repeat (first | exact Drawn0.refl _ | apply Drawn0.step)⟩
  ·rw [if_neg c3] at H
   exact absurd H (by simp)
 case rest =>
  clear HC2
  try clear p2
  try clear c3
  try clear c3b0
  try clear c3b1
  try clear p4
  try clear q4
  try clear hx4
  try clear qi4
  try clear c6
  try clear c7
  try clear p7
  try clear q7
  try clear hx7
  try clear qi7
  try clear c8
  try clear c8b0
  try clear c8b1
  try clear p9
  try clear q9
  try clear hx9
  try clear qi9
  try clear p4
  try clear p7
  try clear p9
  try clear q4
  try clear q7
  try clear q9
  obtain ⟨kq, x17_1, rfl, HA, HJ1, ⟨mc1, rfl⟩⟩ := hcut
  cases kq with
  | zero => exact absurd HA.out (by simp [impl_unitOf.j0])
  | succ kj1 =>
   have H := HA.out
   clear HA
   simp only [impl_unitOf.j0] at H
   have HC10 := Aside0.mk H
   clear H
   go_upto_if 17 with (fail)
   go_cut [] (fun wc => ∃ (kq : Nat), Aside0 (impl_unitOf.j1 kq a0 = some r) ∧ Aside0 (kq ≤ kj1) ∧ Drawn0 w wc)
   case first =>
    have H := HC10.out
    clear HC10
    by_cases c11 : x17_1 = true
    ·subst c11
     have H1 : (some 1) = some r := by rw [if_pos rfl] at H; exact H
     clear H
     have H := H1
     clear H1
     obtain rfl := Option.some.inj H
     go_wp2
     go_ret
     exact ⟨by first | rfl | (simp; done) | (simp [*]; done) | (simp; rw [Bool.eq_iff_iff]; simp; done), by repeat (first | exact Drawn0.refl _ | apply Drawn0.step)⟩
    ·replace c11 := Bool.eq_false_iff.mpr c11
     subst c11
     have H1 : (impl_unitOf.j1 kj1 a0) = some r := by rw [if_neg (show ¬ (false = true) by decide)] at H; exact H
     clear H
     have H := H1
     clear H1
     have H' := Aside0.mk H
     clear H
     go_wp2
     go_meet
     case rel => exact ⟨_, (by first | exact H' | (subst_vars; exact H')), ⟨by have := HJ1.out; first | omega | exact Nat.le_refl _⟩, by repeat (first | exact Drawn0.refl _ | apply Drawn0.step)⟩
   case rest =>
    clear HC10
    try clear c1
    try clear p2
    try clear c3
    try clear c3b0
    try clear c3b1
    try clear p4
    try clear q4
    try clear hx4
    try clear qi4
    try clear c6
    try clear c7
    try clear p7
    try clear q7
    try clear hx7
    try clear qi7
    try clear c8
    try clear c8b0
    try clear c8b1
    try clear p9
    try clear q9
    try clear hx9
    try clear qi9
    try clear c11
    try clear p2
    try clear p4
    try clear p7
    try clear p9
    try clear q4
    try clear q7
    try clear q9
    obtain ⟨kq, HA, HJ9, ⟨mc9, rfl⟩⟩ := hcut
    cases kq with
    | zero => exact absurd HA.out (by simp [impl_unitOf.j1])
    | succ kj9 =>
     have H := HA.out
     clear HA
     simp only [impl_unitOf.j1] at H
     by_cases c12 : 0 < (a0.size : Int)
     ·rw [if_pos c12] at H
      have c12b0 : decide (0 < (a0.size : Int)) = true := decide_eq_true c12
      have c12b1 : decide (0 < a0.size) = true := decide_eq_true (by omega)
      clear c12
      have HC14 := Aside0.mk H
      clear H
      have p13 : 0 ≤ (0 : Int) := (by omega)
      have q13 : 0 < a0.size := (by have : (0 : Int) < (a0.size : Int) := zD; omega)
      have hx13 : ∀ h : 0 < a0.size, ((a0[0]'h).toNat : Int) = bt a0 0 := bt_at a0 0
      clear p13
      have qi13 : (0 < (a0.size : Int)) = True := eq_true (zD)
      replace q13 := eq_true q13
      go_upto_if 20 with (fail)
      go_cut [] (fun wc => ∃ (kq : Nat), Aside0 (impl_unitOf.j2 kq a0 = some r) ∧ Aside0 (kq ≤ kj9) ∧ Drawn0 w wc)
      case first =>
       have H := HC14.out
       clear HC14
       by_cases c15 : (bt a0 0) = 91
       ·rw [if_pos c15] at H
        have c15b0 : ((bt a0 0) == 91) = true := beq_iff_eq.mpr c15
        have c15b1 : ((bt a0 0) != 91) = false := bne_eq_false_iff_eq.mpr c15
        clear c15
        (first | rw [c15b0] | (simp only [i64_w, i32_w]; rw [c15b0]) | skip)
        have H' := Aside0.mk H
        clear H
        go_wp2
        go_meet
        case rel => exact ⟨_, (by first | exact H' | (subst_vars; exact H')), ⟨by have := HJ1.out; have := HJ9.out; first | omega | exact Nat.le_refl _⟩, by repeat (first | exact Drawn0.refl _ | apply Drawn0.step)⟩
       ·rw [if_neg c15] at H
        have c15b0 : ((bt a0 0) == 91) = false := beq_eq_false_iff_ne.mpr c15
        have c15b1 : ((bt a0 0) != 91) = true := bne_iff_ne.mpr c15
        (first | rw [c15b0] | (simp only [i64_w, i32_w]; rw [c15b0]) | skip)
        obtain rfl := Option.some.inj H
        go_wp2
        go_ret
        exact ⟨by first | rfl | (simp; done) | (simp [*]; done) | (simp; rw [Bool.eq_iff_iff]; simp; done), by repeat (first | exact Drawn0.refl _ | apply Drawn0.step)⟩
      case rest =>
       clear HC14
       try clear c1
       try clear p1
       try clear q1
       try clear hx1
       try clear qi1
       try clear p2
       try clear c3
       try clear c3b0
       try clear c3b1
       try clear p4
       try clear q4
       try clear hx4
       try clear qi4
       try clear c6
       try clear c7
       try clear p7
       try clear q7
       try clear hx7
       try clear qi7
       try clear c8
       try clear c8b0
       try clear c8b1
       try clear c9
       try clear p9
       try clear q9
       try clear hx9
       try clear qi9
       try clear c11
       try clear c12
       try clear c12b0
       try clear c12b1
       try clear p13
       try clear q13
       try clear hx13
       try clear qi13
       try clear c15
       try clear c15b0
       try clear c15b1
       try clear p13
       try clear p2
       try clear p4
       try clear p7
       try clear p9
       try clear q13
       try clear q4
       try clear q7
       try clear q9
       obtain ⟨kq, HA, HJ13, ⟨mc13, rfl⟩⟩ := hcut
       cases kq with
       | zero => exact absurd HA.out (by simp [impl_unitOf.j2])
       | succ kj13 =>
        have H := HA.out
        clear HA
        simp only [impl_unitOf.j2] at H
        by_cases c16 : 1 ≤ (a0.size : Int)
        ·rw [if_pos c16] at H
         have c16b0 := eq_true c16
         have c16b1 : decide (1 ≤ (a0.size : Int)) = true := decide_eq_true c16
         clear c16
         replace H := Option.bind_eq_some_iff.mp H
         obtain ⟨t324, A170, H⟩ := H
         replace H : (if t324 = true then (impl_unitOf.j3 kj13 a0 (1 + 1)) else (impl_unitOf.j3 kj13 a0 1)) = some r := H
         have A17 := Aside0.mk A170
         clear A170
         have HC18 := Aside0.mk H
         clear H
         go_upto_if 24 with (first | ((with_reducible refine gate_callee (f := 96) rfl ?_); refine goesL_ (some 24) rfl rfl Tryd.func96 (by kernel_rfl) rfl #[.string (a0.extract 1 a0.size), .string (⟨#[33]⟩ : ByteArray)] rfl zM ?_; (with_reducible refine (strings_HasPrefix.calls (a0.extract 1 a0.size) (⟨#[33]⟩ : ByteArray) t324 _ A17.out).mono ?_); rintro e w' ⟨rfl, ⟨nd, rfl⟩⟩; refine ⟨_, rfl, ?_⟩))
         (try simp only [Act.put, List.setIfInBounds_toArray, List.set_cons_zero, List.set_cons_succ])
         go_cut [3] (fun v3 wc => ∃ (kq : Nat) (x3_17 : Int), v3 = .int .i64 x3_17 ∧ Aside0 (impl_unitOf.j3 kq a0 x3_17 = some r) ∧ Aside0 (kq ≤ kj13) ∧ Drawn0 w wc)
         case first =>
          have H := HC18.out
          clear HC18
          by_cases c19 : t324 = true
          ·subst c19
           have H1 : (impl_unitOf.j3 kj13 a0 (1 + 1)) = some r := by rw [if_pos rfl] at H; exact H
           clear H
           have H := H1
           clear H1
           have H' := Aside0.mk H
           clear H
           go_wp2
           go_meet
           case rel => exact ⟨_, (1 + 1), zS, (by first | exact H' | (subst_vars; exact H')), ⟨by have := HJ1.out; have := HJ9.out; have := HJ13.out; first | omega | exact Nat.le_refl _⟩, by repeat (first | exact Drawn0.refl _ | apply Drawn0.step)⟩
          ·replace c19 := Bool.eq_false_iff.mpr c19
           subst c19
           have H1 : (impl_unitOf.j3 kj13 a0 1) = some r := by rw [if_neg (show ¬ (false = true) by decide)] at H; exact H
           clear H
           have H := H1
           clear H1
           have H' := Aside0.mk H
           clear H
           go_wp2
           go_meet
           case rel => exact ⟨_, (1), zS, (by first | exact H' | (subst_vars; exact H')), ⟨by have := HJ1.out; have := HJ9.out; have := HJ13.out; first | omega | exact Nat.le_refl _⟩, by repeat (first | exact Drawn0.refl _ | apply Drawn0.step)⟩
         case rest =>
          clear HC18
          try clear c1
          try clear p1
          try clear q1
          try clear hx1
          try clear qi1
          try clear p2
          try clear c3
          try clear c3b0
          try clear c3b1
          try clear p4
          try clear q4
          try clear hx4
          try clear qi4
          try clear c6
          try clear c7
          try clear p7
          try clear q7
          try clear hx7
          try clear qi7
          try clear c8
          try clear c8b0
          try clear c8b1
          try clear c9
          try clear p9
          try clear q9
          try clear hx9
          try clear qi9
          try clear c11
          try clear c12
          try clear c12b0
          try clear c12b1
          try clear c13
          try clear p13
          try clear q13
          try clear hx13
          try clear qi13
          try clear c15
          try clear c15b0
          try clear c15b1
          try clear c16
          try clear c16b0
          try clear c16b1
          try clear c19
          try clear p1
          try clear p13
          try clear p2
          try clear p4
          try clear p7
          try clear p9
          try clear q1
          try clear q13
          try clear q4
          try clear q7
          try clear q9
          obtain ⟨kq, x3_17, rfl, HA, HJ17, ⟨mc17, rfl⟩⟩ := hcut
          cases kq with
          | zero => exact absurd HA.out (by simp [impl_unitOf.j3])
          | succ kj17 =>
           have H := HA.out
           clear HA
           simp only [impl_unitOf.j3] at H
           have H' := Aside0.mk H
           clear H
           go_wp2
           go_loopg [3] kj17 (fun kq v3 w' => ∃ (x3_5 : Int), v3 = .int .i64 x3_5 ∧ Aside0 (impl_unitOf.l0 kq a0 x3_5 x3_17 = some r) ∧ Aside0 (kq ≤ kj17) ∧ Drawn0 w w')
           case atStart => exact ⟨(x3_17), zS, H', ⟨Nat.le_refl _⟩, by repeat (first | exact Drawn0.refl _ | apply Drawn0.step)⟩
           case round =>
            clear H'
            try clear c1
            try clear p1
            try clear q1
            try clear hx1
            try clear qi1
            try clear p2
            try clear c3
            try clear c3b0
            try clear c3b1
            try clear p4
            try clear q4
            try clear hx4
            try clear qi4
            try clear c6
            try clear c7
            try clear p7
            try clear q7
            try clear hx7
            try clear qi7
            try clear c8
            try clear c8b0
            try clear c8b1
            try clear c9
            try clear p9
            try clear q9
            try clear hx9
            try clear qi9
            try clear c11
            try clear c12
            try clear c12b0
            try clear c12b1
            try clear c13
            try clear p13
            try clear q13
            try clear hx13
            try clear qi13
            try clear c15
            try clear c15b0
            try clear c15b1
            try clear c16
            try clear c16b0
            try clear c16b1
            try clear c17
            try clear c19
            try clear p1
            try clear p13
            try clear p2
            try clear p4
            try clear p7
            try clear p9
            try clear q1
            try clear q13
            try clear q4
            try clear q7
            try clear q9
            obtain ⟨x3_5, rfl, HA, HK5, ⟨m5, rfl⟩⟩ := hrel
            cases gk with
            | zero => exact absurd HA.out (by simp [impl_unitOf.l0])
            | succ k5 =>
             have H := HA.out
             clear HA
             simp only [impl_unitOf.l0] at H
             by_cases c20 : x3_5 < (a0.size : Int)
             ·rw [if_pos c20] at H
              have c20b0 : decide (x3_5 < (a0.size : Int)) = true := decide_eq_true c20
              clear c20
              by_cases c21 : 0 ≤ x3_5
              ·rw [if_pos c21] at H
               have c21b0 : decide (0 ≤ x3_5) = true := decide_eq_true c21
               clear c21
               replace H := Option.bind_eq_some_iff.mp H
               obtain ⟨t325, A230, H⟩ := H
               replace H : (if t325 = true then (impl_unitOf.l0 k5 a0 (wrap64 (x3_5 + 1)) x3_17) else ((impl_isFigure.f (bt a0 x3_5)).bind fun t326 => (if t326 = true then (impl_unitOf.l0 k5 a0 (wrap64 (x3_5 + 1)) x3_17) else ((impl_inRange.f (wrap64 (x3_5 - x3_17)) 1 5).bind fun t327 => (if t327 = true then (if x3_5 = (a0.size : Int) then (some 0) else (if (bt a0 x3_5) = 93 then (some (wrap64 (x3_5 + 1))) else (some 0))) else (some 0)))))) = some r := H
               have A23 := Aside0.mk A230
               clear A230
               by_cases c24 : t325 = true
               ·subst c24
                have H1 : (impl_unitOf.l0 k5 a0 (wrap64 (x3_5 + 1)) x3_17) = some r := by rw [if_pos rfl] at H; exact H
                clear H
                have H := H1
                clear H1
                have H' := Aside0.mk H
                clear H
                have p22 : 0 ≤ (x3_5 : Int) := zD
                have q22 : x3_5 < (a0.size : Int) := zD
                have hx22 := bt_at a0 x3_5
                replace p22 := eq_true p22
                replace q22 := eq_true q22
                go_wp2_with (first | (go_at_call 72; (with_reducible refine (impl_isSmall.calls (bt a0 x3_5) true _ A23.out).mono ?_); rintro e w' ⟨rfl, ⟨nd, rfl⟩⟩))
                go_roundg k5
                case measure => have := HJ1.out; have := HJ9.out; have := HJ13.out; have := HJ17.out; have := HK5.out; omega
                case rel => exact ⟨(wrap64 (x3_5 + 1)), zS, H', ⟨by have := HJ1.out; have := HJ9.out; have := HJ13.out; have := HJ17.out; have := HK5.out; omega⟩, by repeat (first | exact Drawn0.refl _ | apply Drawn0.step)⟩
               ·replace c24 := Bool.eq_false_iff.mpr c24
                subst c24
                have H1 : ((impl_isFigure.f (bt a0 x3_5)).bind fun t326 => (if t326 = true then (impl_unitOf.l0 k5 a0 (wrap64 (x3_5 + 1)) x3_17) else ((impl_inRange.f (wrap64 (x3_5 - x3_17)) 1 5).bind fun t327 => (if t327 = true then (if x3_5 = (a0.size : Int) then (some 0) else (if (bt a0 x3_5) = 93 then (some (wrap64 (x3_5 + 1))) else (some 0))) else (some 0))))) = some r := by rw [if_neg (show ¬ (false = true) by decide)] at H; exact H
                clear H
                have H := H1
                clear H1
                replace H := Option.bind_eq_some_iff.mp H
                obtain ⟨t326, A260, H⟩ := H
                replace H : (if t326 = true then (impl_unitOf.l0 k5 a0 (wrap64 (x3_5 + 1)) x3_17) else ((impl_inRange.f (wrap64 (x3_5 - x3_17)) 1 5).bind fun t327 => (if t327 = true then (if x3_5 = (a0.size : Int) then (some 0) else (if (bt a0 x3_5) = 93 then (some (wrap64 (x3_5 + 1))) else (some 0))) else (some 0)))) = some r := H
                have A26 := Aside0.mk A260
                clear A260
                by_cases c27 : t326 = true
                ·subst c27
                 have H1 : (impl_unitOf.l0 k5 a0 (wrap64 (x3_5 + 1)) x3_17) = some r := by rw [if_pos rfl] at H; exact H
                 clear H
                 have H := H1
                 clear H1
                 have H' := Aside0.mk H
                 clear H
                 have p22 : 0 ≤ (x3_5 : Int) := zD
                 have q22 : x3_5 < (a0.size : Int) := zD
                 have hx22 := bt_at a0 x3_5
                 replace p22 := eq_true p22
                 replace q22 := eq_true q22
                 go_wp2_with (first | (go_at_call 72; (with_reducible refine (impl_isSmall.calls (bt a0 x3_5) false _ A23.out).mono ?_); rintro e w' ⟨rfl, ⟨nd, rfl⟩⟩; have p25 : 0 ≤ (x3_5 : Int) := zD; have q25 : x3_5 < (a0.size : Int) := zD; have hx25 := bt_at a0 x3_5; replace p25 := eq_true p25; replace q25 := eq_true q25) | (go_at_call 66; (with_reducible refine (impl_isFigure.calls (bt a0 x3_5) true _ A26.out).mono ?_); rintro e w' ⟨rfl, ⟨nd, rfl⟩⟩))
                 go_roundg k5
                 case measure => have := HJ1.out; have := HJ9.out; have := HJ13.out; have := HJ17.out; have := HK5.out; omega
                 case rel => exact ⟨(wrap64 (x3_5 + 1)), zS, H', ⟨by have := HJ1.out; have := HJ9.out; have := HJ13.out; have := HJ17.out; have := HK5.out; omega⟩, by repeat (first | exact Drawn0.refl _ | apply Drawn0.step)⟩
                ·replace c27 := Bool.eq_false_iff.mpr c27
                 subst c27
                 have H1 : ((impl_inRange.f (wrap64 (x3_5 - x3_17)) 1 5).bind fun t327 => (if t327 = true then (if x3_5 = (a0.size : Int) then (some 0) else (if (bt a0 x3_5) = 93 then (some (wrap64 (x3_5 + 1))) else (some 0))) else (some 0))) = some r := by rw [if_neg (show ¬ (false = true) by decide)] at H; exact H
                 clear H
                 have H := H1
                 clear H1
                 replace H := Option.bind_eq_some_iff.mp H
                 obtain ⟨t327, A280, H⟩ := H
                 replace H : (if t327 = true then (if x3_5 = (a0.size : Int) then (some 0) else (if (bt a0 x3_5) = 93 then (some (wrap64 (x3_5 + 1))) else (some 0))) else (some 0)) = some r := H
                 have A28 := Aside0.mk A280
                 clear A280
                 by_cases c29 : t327 = true
                 ·subst c29
                  have H1 : (if x3_5 = (a0.size : Int) then (some 0) else (if (bt a0 x3_5) = 93 then (some (wrap64 (x3_5 + 1))) else (some 0))) = some r := by rw [if_pos rfl] at H; exact H
                  clear H
                  have H := H1
                  clear H1
                  by_cases c30 : x3_5 = (a0.size : Int)
                  ·rw [if_pos c30] at H
                   have c30b0 : (x3_5 == (a0.size : Int)) = true := beq_iff_eq.mpr c30
                   have c30b1 : (x3_5 != (a0.size : Int)) = false := bne_eq_false_iff_eq.mpr c30
                   clear c30
                   obtain rfl := Option.some.inj H
                   have p22 : 0 ≤ (x3_5 : Int) := zD
                   have q22 : x3_5 < (a0.size : Int) := zD
                   have hx22 := bt_at a0 x3_5
                   replace p22 := eq_true p22
                   replace q22 := eq_true q22
                   go_wp2_with (first | (go_at_call 72; (with_reducible refine (impl_isSmall.calls (bt a0 x3_5) false _ A23.out).mono ?_); rintro e w' ⟨rfl, ⟨nd, rfl⟩⟩; have p25 : 0 ≤ (x3_5 : Int) := zD; have q25 : x3_5 < (a0.size : Int) := zD; have hx25 := bt_at a0 x3_5; replace p25 := eq_true p25; replace q25 := eq_true q25) | (go_at_call 66; (with_reducible refine (impl_isFigure.calls (bt a0 x3_5) false _ A26.out).mono ?_); rintro e w' ⟨rfl, ⟨nd, rfl⟩⟩) | ((with_reducible refine gate_callee (f := 42) rfl ?_); refine goesL_ (some 49) rfl rfl Tryd.func42 (by kernel_rfl) rfl #[.int .i64 (wrap64 (x3_5 - x3_17)), .int .i64 1, .int .i64 5] rfl zM ?_; (with_reducible refine (impl_inRange.calls (wrap64 (x3_5 - x3_17)) 1 5 true _ A28.out).mono ?_); rintro e w' ⟨rfl, ⟨nd, rfl⟩⟩; refine ⟨_, rfl, ?_⟩))
                   go_ret
                   exact ⟨by first | rfl | (simp; done) | (simp [*]; done) | (simp; rw [Bool.eq_iff_iff]; simp; done), by repeat (first | exact Drawn0.refl _ | apply Drawn0.step)⟩
                  ·rw [if_neg c30] at H
                   have c30b0 : (x3_5 == (a0.size : Int)) = false := beq_eq_false_iff_ne.mpr c30
                   have c30b1 : (x3_5 != (a0.size : Int)) = true := bne_iff_ne.mpr c30
                   by_cases c32 : (bt a0 x3_5) = 93
                   ·rw [if_pos c32] at H
                    have c32b0 : ((bt a0 x3_5) == 93) = true := beq_iff_eq.mpr c32
                    have c32b1 : ((bt a0 x3_5) != 93) = false := bne_eq_false_iff_eq.mpr c32
                    clear c32
                    obtain rfl := Option.some.inj H
                    have p22 : 0 ≤ (x3_5 : Int) := zD
                    have q22 : x3_5 < (a0.size : Int) := zD
                    have hx22 := bt_at a0 x3_5
                    replace p22 := eq_true p22
                    replace q22 := eq_true q22
                    go_wp2_with (first | (go_at_call 72; (with_reducible refine (impl_isSmall.calls (bt a0 x3_5) false _ A23.out).mono ?_); rintro e w' ⟨rfl, ⟨nd, rfl⟩⟩; have p25 : 0 ≤ (x3_5 : Int) := zD; have q25 : x3_5 < (a0.size : Int) := zD; have hx25 := bt_at a0 x3_5; replace p25 := eq_true p25; replace q25 := eq_true q25) | (go_at_call 66; (with_reducible refine (impl_isFigure.calls (bt a0 x3_5) false _ A26.out).mono ?_); rintro e w' ⟨rfl, ⟨nd, rfl⟩⟩) | ((with_reducible refine gate_callee (f := 42) rfl ?_); refine goesL_ (some 49) rfl rfl Tryd.func42 (by kernel_rfl) rfl #[.int .i64 (wrap64 (x3_5 - x3_17)), .int .i64 1, .int .i64 5] rfl zM ?_; (with_reducible refine (impl_inRange.calls (wrap64 (x3_5 - x3_17)) 1 5 true _ A28.out).mono ?_); rintro e w' ⟨rfl, ⟨nd, rfl⟩⟩; refine ⟨_, rfl, ?_⟩; have p31 : 0 ≤ (x3_5 : Int) := zD; have q31 : x3_5 < (a0.size : Int) := zD; have hx31 := bt_at a0 x3_5; replace p31 := eq_true p31; replace q31 := eq_true q31))
                    go_ret
                    exact ⟨by first | rfl | (simp; done) | (simp [*]; done) | (simp; rw [Bool.eq_iff_iff]; simp; done), by repeat (first | exact Drawn0.refl _ | apply Drawn0.step)⟩
                   ·rw [if_neg c32] at H
                    have c32b0 : ((bt a0 x3_5) == 93) = false := beq_eq_false_iff_ne.mpr c32
                    have c32b1 : ((bt a0 x3_5) != 93) = true := bne_iff_ne.mpr c32
                    obtain rfl := Option.some.inj H
                    have p22 : 0 ≤ (x3_5 : Int) := zD
                    have q22 : x3_5 < (a0.size : Int) := zD
                    have hx22 := bt_at a0 x3_5
                    replace p22 := eq_true p22
                    replace q22 := eq_true q22
                    go_wp2_with (first | (go_at_call 72; (with_reducible refine (impl_isSmall.calls (bt a0 x3_5) false _ A23.out).mono ?_); rintro e w' ⟨rfl, ⟨nd, rfl⟩⟩; have p25 : 0 ≤ (x3_5 : Int) := zD; have q25 : x3_5 < (a0.size : Int) := zD; have hx25 := bt_at a0 x3_5; replace p25 := eq_true p25; replace q25 := eq_true q25) | (go_at_call 66; (with_reducible refine (impl_isFigure.calls (bt a0 x3_5) false _ A26.out).mono ?_); rintro e w' ⟨rfl, ⟨nd, rfl⟩⟩) | ((with_reducible refine gate_callee (f := 42) rfl ?_); refine goesL_ (some 49) rfl rfl Tryd.func42 (by kernel_rfl) rfl #[.int .i64 (wrap64 (x3_5 - x3_17)), .int .i64 1, .int .i64 5] rfl zM ?_; (with_reducible refine (impl_inRange.calls (wrap64 (x3_5 - x3_17)) 1 5 true _ A28.out).mono ?_); rintro e w' ⟨rfl, ⟨nd, rfl⟩⟩; refine ⟨_, rfl, ?_⟩; have p31 : 0 ≤ (x3_5 : Int) := zD; have q31 : x3_5 < (a0.size : Int) := zD; have hx31 := bt_at a0 x3_5; replace p31 := eq_true p31; replace q31 := eq_true q31))
                    go_ret
                    exact ⟨by first | rfl | (simp; done) | (simp [*]; done) | (simp; rw [Bool.eq_iff_iff]; simp; done), by repeat (first | exact Drawn0.refl _ | apply Drawn0.step)⟩
                 ·replace c29 := Bool.eq_false_iff.mpr c29
                  subst c29
                  have H1 : (some 0) = some r := by rw [if_neg (show ¬ (false = true) by decide)] at H; exact H
                  clear H
                  have H := H1
                  clear H1
                  obtain rfl := Option.some.inj H
                  have p22 : 0 ≤ (x3_5 : Int) := zD
                  have q22 : x3_5 < (a0.size : Int) := zD
                  have hx22 := bt_at a0 x3_5
                  replace p22 := eq_true p22
                  replace q22 := eq_true q22
                  go_wp2_with (first | (go_at_call 72; (with_reducible refine (impl_isSmall.calls (bt a0 x3_5) false _ A23.out).mono ?_); rintro e w' ⟨rfl, ⟨nd, rfl⟩⟩; have p25 : 0 ≤ (x3_5 : Int) := zD; have q25 : x3_5 < (a0.size : Int) := zD; have hx25 := bt_at a0 x3_5; replace p25 := eq_true p25; replace q25 := eq_true q25) | (go_at_call 66; (with_reducible refine (impl_isFigure.calls (bt a0 x3_5) false _ A26.out).mono ?_); rintro e w' ⟨rfl, ⟨nd, rfl⟩⟩) | ((with_reducible refine gate_callee (f := 42) rfl ?_); refine goesL_ (some 49) rfl rfl Tryd.func42 (by kernel_rfl) rfl #[.int .i64 (wrap64 (x3_5 - x3_17)), .int .i64 1, .int .i64 5] rfl zM ?_; (with_reducible refine (impl_inRange.calls (wrap64 (x3_5 - x3_17)) 1 5 false _ A28.out).mono ?_); rintro e w' ⟨rfl, ⟨nd, rfl⟩⟩; refine ⟨_, rfl, ?_⟩))
                  go_ret
                  exact ⟨by first | rfl | (simp; done) | (simp [*]; done) | (simp; rw [Bool.eq_iff_iff]; simp; done), by repeat (first | exact Drawn0.refl _ | apply Drawn0.step)⟩
              ·rw [if_neg c21] at H
               exact absurd H (by simp)
             ·rw [if_neg c20] at H
              have c20b0 : decide (x3_5 < (a0.size : Int)) = false := decide_eq_false c20
              clear c20
              replace H := Option.bind_eq_some_iff.mp H
              obtain ⟨t328, A330, H⟩ := H
              replace H : (if t328 = true then (if x3_5 = (a0.size : Int) then (some 0) else (if 0 ≤ x3_5 then (none) else (none))) else (some 0)) = some r := H
              have A33 := Aside0.mk A330
              clear A330
              by_cases c34 : t328 = true
              ·subst c34
               have H1 : (if x3_5 = (a0.size : Int) then (some 0) else (if 0 ≤ x3_5 then (none) else (none))) = some r := by rw [if_pos rfl] at H; exact H
               clear H
               have H := H1
               clear H1
               by_cases c35 : x3_5 = (a0.size : Int)
               ·rw [if_pos c35] at H
                have c35b0 : (x3_5 == (a0.size : Int)) = true := beq_iff_eq.mpr c35
                have c35b1 : (x3_5 != (a0.size : Int)) = false := bne_eq_false_iff_eq.mpr c35
                clear c35
                obtain rfl := Option.some.inj H
                go_wp2_with (first | ((with_reducible refine gate_callee (f := 42) rfl ?_); refine goesL_ (some 49) rfl rfl Tryd.func42 (by kernel_rfl) rfl #[.int .i64 (wrap64 (x3_5 - x3_17)), .int .i64 1, .int .i64 5] rfl zM ?_; (with_reducible refine (impl_inRange.calls (wrap64 (x3_5 - x3_17)) 1 5 true _ A33.out).mono ?_); rintro e w' ⟨rfl, ⟨nd, rfl⟩⟩; refine ⟨_, rfl, ?_⟩))
                go_ret
                exact ⟨by first | rfl | (simp; done) | (simp [*]; done) | (simp; rw [Bool.eq_iff_iff]; simp; done), by repeat (first | exact Drawn0.refl _ | apply Drawn0.step)⟩
               ·rw [if_neg c35] at H
                have c35b0 : (x3_5 == (a0.size : Int)) = false := beq_eq_false_iff_ne.mpr c35
                have c35b1 : (x3_5 != (a0.size : Int)) = true := bne_iff_ne.mpr c35
                by_cases c36 : 0 ≤ x3_5
                ·rw [if_pos c36] at H
                 exact absurd H (by simp)
                ·rw [if_neg c36] at H
                 exact absurd H (by simp)
              ·replace c34 := Bool.eq_false_iff.mpr c34
               subst c34
               have H1 : (some 0) = some r := by rw [if_neg (show ¬ (false = true) by decide)] at H; exact H
               clear H
               have H := H1
               clear H1
               obtain rfl := Option.some.inj H
               go_wp2_with (first | ((with_reducible refine gate_callee (f := 42) rfl ?_); refine goesL_ (some 49) rfl rfl Tryd.func42 (by kernel_rfl) rfl #[.int .i64 (wrap64 (x3_5 - x3_17)), .int .i64 1, .int .i64 5] rfl zM ?_; (with_reducible refine (impl_inRange.calls (wrap64 (x3_5 - x3_17)) 1 5 false _ A33.out).mono ?_); rintro e w' ⟨rfl, ⟨nd, rfl⟩⟩; refine ⟨_, rfl, ?_⟩))
               go_ret
               exact ⟨by first | rfl | (simp; done) | (simp [*]; done) | (simp; rw [Bool.eq_iff_iff]; simp; done), by repeat (first | exact Drawn0.refl _ | apply Drawn0.step)⟩
        ·rw [if_neg c16] at H
         exact absurd H (by simp)
     ·rw [if_neg c12] at H
      exact absurd H (by simp)
/-! ### impl_pieceOk: function 54 -/
def impl_pieceOk.l0 : Nat → Int → ByteArray → Option (Bool)
 | 0, _, _ => none
 | k + 1, x3, x4 => if x4.toList = ([] : List UInt8) then ((impl_inRange.f x3 1 12).bind fun t329 => (some t329)) else ((impl_unitOf.f k x4).bind fun t330 => (if t330 = 0 then (some false) else (if 0 ≤ t330 then (if t330 ≤ (x4.size : Int) then (impl_pieceOk.l0 k (wrap64 (x3 + 1)) (x4.extract (t330 : Int).toNat x4.size)) else (none)) else (none))))
def impl_pieceOk.f (k : Nat) (a0 : ByteArray) : Option (Bool) := impl_pieceOk.l0 k 0 a0
theorem impl_pieceOk.calls (k : Nat) (a0 : ByteArray) (r : Bool) (w : World) (h : impl_pieceOk.f k a0 = some r) :
  Calls Tryd.prog 54 #[.string a0] w fun e w' => e = .returned (.bool r) ∧ Drawn0 w w' := by
 have H : (impl_pieceOk.l0 k 0 a0) = some r := h
 clear h
 have H' := Aside0.mk H
 clear H
 go_enter Tryd.func54, Tryd.ntmps54
 go_wp2
 go_loopg [3, 4] k (fun kq v3 v4 w' => ∃ (x3_1 : Int) (x4_1 : ByteArray), v3 = .int .i64 x3_1 ∧ v4 = .string x4_1 ∧ Aside0 (impl_pieceOk.l0 kq x3_1 x4_1 = some r) ∧ Aside0 (kq ≤ k) ∧ Drawn0 w w')
 case atStart => exact ⟨(0), (a0), zS, zS, H', ⟨Nat.le_refl _⟩, by repeat (first | exact Drawn0.refl _ | apply Drawn0.step)⟩
 case round =>
  clear H'
  obtain ⟨x3_1, x4_1, rfl, rfl, HA, HK1, ⟨m1, rfl⟩⟩ := hrel
  cases gk with
  | zero => exact absurd HA.out (by simp [impl_pieceOk.l0])
  | succ k1 =>
   have H := HA.out
   clear HA
   simp only [impl_pieceOk.l0] at H
   by_cases c2 : x4_1.toList = ([] : List UInt8)
   ·rw [if_pos c2] at H
    have c2b0 : (x4_1.toList == ([] : List UInt8)) = true := beq_iff_eq.mpr c2
    have c2b1 : (x4_1.toList != ([] : List UInt8)) = false := bne_eq_false_iff_eq.mpr c2
    clear c2
    replace H := Option.bind_eq_some_iff.mp H
    obtain ⟨t329, A30, H⟩ := H
    replace H : (some t329) = some r := H
    have A3 := Aside0.mk A30
    clear A30
    obtain rfl := Option.some.inj H
    go_wp2_with (first | ((with_reducible refine gate_callee (f := 42) rfl ?_); refine goesL_ (some 19) rfl rfl Tryd.func42 (by kernel_rfl) rfl #[.int .i64 x3_1, .int .i64 1, .int .i64 12] rfl zM ?_; (with_reducible refine (impl_inRange.calls x3_1 1 12 t329 _ A3.out).mono ?_); rintro e w' ⟨rfl, ⟨nd, rfl⟩⟩; refine ⟨_, rfl, ?_⟩))
    go_ret
    exact ⟨by first | rfl | (simp; done) | (simp [*]; done) | (simp; rw [Bool.eq_iff_iff]; simp; done), by repeat (first | exact Drawn0.refl _ | apply Drawn0.step)⟩
   ·rw [if_neg c2] at H
    have c2b0 : (x4_1.toList == ([] : List UInt8)) = false := beq_eq_false_iff_ne.mpr c2
    have c2b1 : (x4_1.toList != ([] : List UInt8)) = true := bne_iff_ne.mpr c2
    replace H := Option.bind_eq_some_iff.mp H
    obtain ⟨t330, A40, H⟩ := H
    replace H : (if t330 = 0 then (some false) else (if 0 ≤ t330 then (if t330 ≤ (x4_1.size : Int) then (impl_pieceOk.l0 k1 (wrap64 (x3_1 + 1)) (x4_1.extract (t330 : Int).toNat x4_1.size)) else (none)) else (none))) = some r := H
    have A4 := Aside0.mk A40
    clear A40
    by_cases c5 : t330 = 0
    ·rw [if_pos c5] at H
     have c5b0 : (t330 == 0) = true := beq_iff_eq.mpr c5
     have c5b1 : (t330 != 0) = false := bne_eq_false_iff_eq.mpr c5
     clear c5
     obtain rfl := Option.some.inj H
     go_wp2_with (first | ((with_reducible refine gate_callee (f := 81) rfl ?_); refine goesL_ (some 12) rfl rfl Tryd.func81 (by kernel_rfl) rfl #[.string x4_1] rfl zM ?_; (with_reducible refine (impl_unitOf.calls k1 x4_1 t330 _ A4.out).mono ?_); rintro e w' ⟨rfl, ⟨nd, rfl⟩⟩; refine ⟨_, rfl, ?_⟩))
     go_ret
     exact ⟨by first | rfl | (simp; done) | (simp [*]; done) | (simp; rw [Bool.eq_iff_iff]; simp; done), by repeat (first | exact Drawn0.refl _ | apply Drawn0.step)⟩
    ·rw [if_neg c5] at H
     have c5b0 : (t330 == 0) = false := beq_eq_false_iff_ne.mpr c5
     have c5b1 : (t330 != 0) = true := bne_iff_ne.mpr c5
     by_cases c6 : 0 ≤ t330
     ·rw [if_pos c6] at H
      have c6b0 := eq_true c6
      have c6b1 : decide (0 ≤ t330) = true := decide_eq_true c6
      clear c6
      by_cases c7 : t330 ≤ (x4_1.size : Int)
      ·rw [if_pos c7] at H
       have c7b0 := eq_true c7
       have c7b1 : decide (t330 ≤ (x4_1.size : Int)) = true := decide_eq_true c7
       clear c7
       have H' := Aside0.mk H
       clear H
       go_wp2_with (first | ((with_reducible refine gate_callee (f := 81) rfl ?_); refine goesL_ (some 12) rfl rfl Tryd.func81 (by kernel_rfl) rfl #[.string x4_1] rfl zM ?_; (with_reducible refine (impl_unitOf.calls k1 x4_1 t330 _ A4.out).mono ?_); rintro e w' ⟨rfl, ⟨nd, rfl⟩⟩; refine ⟨_, rfl, ?_⟩))
       go_roundg k1
       case measure => have := HK1.out; omega
       case rel => exact ⟨(wrap64 (x3_1 + 1)), (x4_1.extract (t330 : Int).toNat x4_1.size), zS, zS, H', ⟨by have := HK1.out; omega⟩, by repeat (first | exact Drawn0.refl _ | apply Drawn0.step)⟩
      ·rw [if_neg c7] at H
       exact absurd H (by simp)
     ·rw [if_neg c6] at H
      exact absurd H (by simp)
/-! ### impl_GlobOk: function 24 -/
def impl_GlobOk.l0 : Nat → List ByteArray → List ByteArray → Int → Int → Option (Bool)
 | 0, _, _, _, _ => none
 | k + 1, x3, x8, x9, x10 => if x10 < x9 then (if 0 ≤ x10 then (if x10 < (x8.length : Int) then ((impl_pieceOk.f k (rdOf ByteArray.empty x8 x10)).bind fun t335 => (if t335 = true then (impl_GlobOk.l0 k x3 x8 x9 (wrap64 (x10 + 1))) else (some false))) else (none)) else (none)) else (some (decide ((x3.length : Int) ≤ 4)))
def impl_GlobOk.f (k : Nat) (a0 : ByteArray) : Option (Bool) := (strings_Split.f a0 (⟨#[47]⟩ : ByteArray)).bind fun t331 => (impl_GlobOk.l0 k t331 t331 (t331.length : Int) 0)
theorem impl_GlobOk.calls (k : Nat) (a0 : ByteArray) (r : Bool) (w : World) (hG : GW w) (h : impl_GlobOk.f k a0 = some r) :
  Calls Tryd.prog 24 #[.string a0] w fun e w' => e = .returned (.bool r) ∧ Below w.heap.size w w' := by
 have HG := Aside0.mk hG
 clear hG
 have HB := Aside0.mk (Below.refl w.heap.size w)
 have H : ((strings_Split.f a0 (⟨#[47]⟩ : ByteArray)).bind fun t331 => (impl_GlobOk.l0 k t331 t331 (t331.length : Int) 0)) = some r := h
 clear h
 replace H := Option.bind_eq_some_iff.mp H
 obtain ⟨t331, A20, H⟩ := H
 replace H : (impl_GlobOk.l0 k t331 t331 (t331.length : Int) 0) = some r := H
 have A2 := Aside0.mk A20
 clear A20
 have H' := Aside0.mk H
 clear H
 go_enter Tryd.func24, Tryd.ntmps24
 go_wp2_with (first | ((with_reducible refine gate_callee (f := 35) rfl ?_); refine goesL_ (some 7) rfl rfl Tryd.func35 (by kernel_rfl) rfl #[.string a0, .string (⟨#[47]⟩ : ByteArray)] rfl zM ?_; (with_reducible refine (strings_Split.calls a0 (⟨#[47]⟩ : ByteArray) t331 _ ?side1 A2.out).mono ?_); (case side1 => exact GW.below HG.out (zB)); rintro e w3 ⟨v332, rfl, ho0, hb⟩; refine ⟨_, rfl, ?_⟩; have n0_ := Aside0.mk (Kd.R_lower ho0 (below_size (zB))); have n1_ := Aside0.mk (below_step (zB) hb); clear HB; have HO333 := n0_; have HB := n1_; clear n0_ n1_; (try clear hb); (try clear hb2); (try clear hk); (try clear hi); (try clear ho0); obtain ⟨Ao4, co4, eo4⟩ := Kd.R_slice HO333.out; subst eo4))
 go_loopg [10] k (fun kq v10 w' => ∃ (x10_1 : Int), v10 = .int .i64 x10_1 ∧ Aside0 (impl_GlobOk.l0 kq t331 t331 (t331.length : Int) x10_1 = some r) ∧ Aside0 (kq ≤ k) ∧ Aside0 (Kd.R Kd.string 9 w' w.heap.size (fun _ => True) (.slice Ao4 t331.length co4) t331) ∧ Aside0 (Kd.R Kd.string 9 w' w.heap.size (fun _ => True) (.slice Ao4 t331.length co4) t331) ∧ Aside0 (Below w.heap.size w w'))
 case atStart => exact ⟨(0), zS, H', ⟨Nat.le_refl _⟩, ⟨by (with_reducible repeat (first | apply Kd.R_alloc | apply Kd.R_drewN | apply Kd.R_drew)); exact HO333.out⟩, ⟨by (with_reducible repeat (first | apply Kd.R_alloc | apply Kd.R_drewN | apply Kd.R_drew)); exact HO333.out⟩, ⟨zB⟩⟩
 case round =>
  clear H'
  try clear c2
  try clear p2
  try clear c3
  obtain ⟨x10_1, rfl, HA, HK1, HO_3, HO_8, HB⟩ := hrel
  cases gk with
  | zero => exact absurd HA.out (by simp [impl_GlobOk.l0])
  | succ k1 =>
   have H := HA.out
   clear HA
   simp only [impl_GlobOk.l0] at H
   by_cases c5 : x10_1 < (t331.length : Int)
   ·rw [if_pos c5] at H
    have c5b0 : decide (x10_1 < (t331.length : Int)) = true := decide_eq_true c5
    clear c5
    by_cases c6 : 0 ≤ x10_1
    ·rw [if_pos c6] at H
     have c6b0 : decide (0 ≤ x10_1) = true := decide_eq_true c6
     clear c6
     by_cases c7 : x10_1 < (t331.length : Int)
     ·rw [if_pos c7] at H
      have c7b0 : decide (x10_1 < (t331.length : Int)) = true := decide_eq_true c7
      clear c7
      replace H := Option.bind_eq_some_iff.mp H
      obtain ⟨t335, A80, H⟩ := H
      replace H : (if t335 = true then (impl_GlobOk.l0 k1 t331 t331 (t331.length : Int) (wrap64 (x10_1 + 1))) else (some false)) = some r := H
      have A8 := Aside0.mk A80
      clear A80
      by_cases c9 : t335 = true
      ·subst c9
       have H1 : (impl_GlobOk.l0 k1 t331 t331 (t331.length : Int) (wrap64 (x10_1 + 1))) = some r := by rw [if_pos rfl] at H; exact H
       clear H
       have H := H1
       clear H1
       have H' := Aside0.mk H
       clear H
       have p334 : 0 ≤ (x10_1 : Int) := zD
       have q334 : x10_1 < (t331.length : Int) := zD
       obtain ⟨ad334, e334, hx334_0⟩ := Kd.at_string (Kd.R_reads' HO_8.out).2.2 x10_1 p334 q334
       cases e334
       replace p334 := eq_true p334
       replace q334 := eq_true q334
       go_wp2_with (first | ((with_reducible refine gate_callee (f := 54) rfl ?_); refine goesL_ (some 15) rfl rfl Tryd.func54 (by kernel_rfl) rfl #[.string (rdOf ByteArray.empty t331 x10_1)] rfl zM ?_; (with_reducible refine (impl_pieceOk.calls k1 (rdOf ByteArray.empty t331 x10_1) true _ A8.out).mono ?_); rintro e w' ⟨rfl, ⟨nd, rfl⟩⟩; refine ⟨_, rfl, ?_⟩))
       go_roundg k1
       case measure => have := HK1.out; omega
       case rel => exact ⟨(wrap64 (x10_1 + 1)), zS, H', ⟨by have := HK1.out; omega⟩, ⟨by (with_reducible repeat (first | apply Kd.R_alloc | apply Kd.R_drewN | apply Kd.R_drew)); exact HO_3.out⟩, ⟨by (with_reducible repeat (first | apply Kd.R_alloc | apply Kd.R_drewN | apply Kd.R_drew)); exact HO_8.out⟩, ⟨zB⟩⟩
      ·replace c9 := Bool.eq_false_iff.mpr c9
       subst c9
       have H1 : (some false) = some r := by rw [if_neg (show ¬ (false = true) by decide)] at H; exact H
       clear H
       have H := H1
       clear H1
       obtain rfl := Option.some.inj H
       have p334 : 0 ≤ (x10_1 : Int) := zD
       have q334 : x10_1 < (t331.length : Int) := zD
       obtain ⟨ad334, e334, hx334_0⟩ := Kd.at_string (Kd.R_reads' HO_8.out).2.2 x10_1 p334 q334
       cases e334
       replace p334 := eq_true p334
       replace q334 := eq_true q334
       go_wp2_with (first | ((with_reducible refine gate_callee (f := 54) rfl ?_); refine goesL_ (some 15) rfl rfl Tryd.func54 (by kernel_rfl) rfl #[.string (rdOf ByteArray.empty t331 x10_1)] rfl zM ?_; (with_reducible refine (impl_pieceOk.calls k1 (rdOf ByteArray.empty t331 x10_1) false _ A8.out).mono ?_); rintro e w' ⟨rfl, ⟨nd, rfl⟩⟩; refine ⟨_, rfl, ?_⟩))
       go_ret
       exact ⟨zE, zB⟩
     ·rw [if_neg c7] at H
      exact absurd H (by simp)
    ·rw [if_neg c6] at H
     exact absurd H (by simp)
   ·rw [if_neg c5] at H
    have c5b0 : decide (x10_1 < (t331.length : Int)) = false := decide_eq_false c5
    clear c5
    obtain rfl := Option.some.inj H
    go_wp2
    go_ret
    exact ⟨zE, zB⟩
/-! ### strings_CutPrefix: function 110 -/
def strings_CutPrefix.f (a0 a1 : ByteArray) : Option (ByteArray × Bool) := some (⟨(Lib.trimPrefix a0.data.toList a1.data.toList).toArray⟩, Lib.hasPrefix a0.data.toList a1.data.toList)
theorem strings_CutPrefix.calls (a0 a1 : ByteArray) (r1 : ByteArray) (r2 : Bool) (w : World) (h : strings_CutPrefix.f a0 a1 = some (r1, r2)) :
  Calls Tryd.prog 110 #[.string a0, .string a1] w fun e w' => e = .returned (.tuple #[.string r1, .bool r2]) ∧ Drawn0 w w' := by
 obtain ⟨rfl, rfl⟩ := Prod.mk.inj (Option.some.inj h)
 refine (Tryd.strings_CutPrefix a0 a1 w).mono ?_
 rintro e w' ⟨rfl, rfl⟩
 exact ⟨rfl, Drawn0.refl _⟩
/-! ### strings_IndexByte: function 111 -/
def strings_IndexByte.f (a0 : ByteArray) (a1 : Int) : Option Int := some (Lib.indexByte a0.data.toList a1.toNat.toUInt8)
theorem strings_IndexByte.calls (a0 : ByteArray) (a1 : Int) (r : Int) (w : World) (h : strings_IndexByte.f a0 a1 = some r) :
  Calls Tryd.prog 111 #[.string a0, .int .u8 a1] w fun e w' => e = .returned (.int .i64 r) ∧ Drawn0 w w' := by
 obtain rfl := Option.some.inj h
 refine (Tryd.strings_IndexByte a0 a1 w).mono ?_
 rintro e w' ⟨rfl, rfl⟩
 exact ⟨rfl, Drawn0.refl _⟩
end Go.Proofs.YtbjgmbhkofgjaaaDoor.PGA
