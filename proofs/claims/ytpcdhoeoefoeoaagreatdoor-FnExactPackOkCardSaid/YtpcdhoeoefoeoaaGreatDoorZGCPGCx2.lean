/- The walks of the functions that these laws reach, and what each comes to: printed by this session's program. -/
import Derived.Test.YtpcdhoeoefoeoaaGreatDoorZGCPGCx0
import Derived.Test.YtpcdhoeoefoeoaaGreatDoorZGCPGCx1
import Derived.Test.YtpcdhoeoefoeoaaGreatDoorZGCSays
namespace Go.Proofs.YtpcdhoeoefoeoaaGreatDoor.PGC
open Go.RowKit YtpcdhoeoefoeoaaGreatDoorW.PrintWords YtpcdhoeoefoeoaaGreatDoorW.PrintLast YtpcdhoeoefoeoaaGreatDoorW.PrintMore
attribute [local go_sem high] Mine.str_gtr Mine.str_leq Mine.str_geq
attribute [local go_sem] max2_int min2_int max_two min_two max_three min_three max_four min_four   -- for this text's walks alone
set_option linter.unusedVariables false
set_option maxHeartbeats 8000000
set_option maxRecDepth 100000
set_option linter.unusedSimpArgs false
/-! ### spec_NameOk: function 53 -/
mutual
def spec_NameOk.l0 : Nat → ByteArray → Int → Option (Bool)
 | 0, _, _ => none
 | k + 1, x0, x3 => if x3 < (x0.size : Int) then (spec_NameOk.j1 k x0 x3) else ((spec_l1In.f (x0.size : Int) 1 10).bind fun a0 => (some a0))
def spec_NameOk.j1 : Nat → ByteArray → Int → Option (Bool)
 | 0, _, _ => none
 | k + 1, x0, x3 => if 0 ≤ x3 then (if x3 < (x0.size : Int) then ((spec_l1Small.f (bt x0 x3)).bind fun a1 => (if a1 = true then (spec_NameOk.l0 k x0 (wrap64 (x3 + 1))) else (if x3 = 0 then (some false) else ((spec_l1Digit.f (bt x0 x3)).bind fun a2 => (if a2 = true then (spec_NameOk.l0 k x0 (wrap64 (x3 + 1))) else (if (bt x0 x3) = 45 then (spec_NameOk.l0 k x0 (wrap64 (x3 + 1))) else (some false))))))) else (none)) else (none)
end
def spec_NameOk.f (k : Nat) (a0 : ByteArray) : Option (Bool) := spec_NameOk.l0 k a0 0
theorem spec_NameOk.calls (k : Nat) (a0 : ByteArray) (r : Bool) (w : World) (h : spec_NameOk.f k a0 = some r) :
  Calls Tryz.prog 53 #[.string a0] w fun e w' => e = .returned (.bool r) ∧ Drawn0 w w' := by
 unfold spec_NameOk.f at h
 have H := h
 clear h
 have H' := Aside0.mk H
 clear H
 go_enter Tryz.func53, Tryz.ntmps53
 go_wp2
 go_loopg [3] k (fun kq v3 w' => ∃ (a1 : Int), v3 = .int .i64 a1 ∧ Aside0 (spec_NameOk.l0 kq a0 a1 = some r) ∧ Aside0 (kq ≤ k) ∧ Drawn0 w w')
 case atStart => exact ⟨(0), zS, H', ⟨Nat.le_refl _⟩, by repeat (first | exact Drawn0.refl _ | apply Drawn0.step)⟩
 case round =>
  clear H'
  obtain ⟨a1, rfl, HA, a4, ⟨m1, rfl⟩⟩ := hrel
  cases gk with
  | zero => exact absurd HA.out (by simp [spec_NameOk.l0])
  | succ k1 =>
   have H := HA.out
   clear HA
   simp only [spec_NameOk.l0] at H
   have b2 := Aside0.mk H
   clear H
   go_upto_if 7 with (fail)
   go_cut [] (fun wc => ∃ (kq : Nat), Aside0 (spec_NameOk.j1 kq a0 a1 = some r) ∧ Aside0 (kq ≤ k1) ∧ Drawn0 w wc)
   case first =>
    have H := b2.out
    clear b2
    replace H := zI0 H
    rcases H with ⟨a5, H⟩ | ⟨a5, H⟩
    ·(first | rw [a5] | (simp only [i64_w, i32_w]; rw [a5]) | skip)
     have H' := Aside0.mk H
     clear H
     go_wp2
     go_meet
     case rel => exact ⟨_, (by first | exact H' | (subst_vars; exact H')), ⟨by have := a4.out; first | omega | exact Nat.le_refl _⟩, by repeat (first | exact Drawn0.refl _ | apply Drawn0.step)⟩
    ·(first | rw [a5] | (simp only [i64_w, i32_w]; rw [a5]) | skip)
     replace H := zj H
     obtain ⟨b6, A4, H⟩ := H
     try dsimp only at H
     obtain rfl := Option.some.inj H
     go_wp2_with (first | ((with_reducible refine zq 104 ?_); refine zg (some 34) Tryz.func104 #[.int .i64 (a0.size : Int), .int .i64 1, .int .i64 10] ?_; (with_reducible refine (spec_l1In.calls (a0.size : Int) 1 10 b6 _ A4.out).mono ?_); rintro e w' ⟨rfl, ⟨nd, rfl⟩⟩; refine ⟨_, rfl, ?_⟩))
     go_ret
     exact ⟨by first | rfl | (simp; done) | (simp [*]; done) | (simp; rw [Bool.eq_iff_iff]; simp; done), by repeat (first | exact Drawn0.refl _ | apply Drawn0.step)⟩
   case rest =>
    clear b2
    try clear c1
    try clear p2
    try clear c3
    try clear a5
    obtain ⟨kq, HA, a6, ⟨c4, rfl⟩⟩ := hcut
    cases kq with
    | zero => exact absurd HA.out (by simp [spec_NameOk.j1])
    | succ b3 =>
     have H := HA.out
     clear HA
     simp only [spec_NameOk.j1] at H
     replace H := zD0 H
     obtain ⟨c5, H⟩ := H
     replace H := zD0 H
     obtain ⟨c6, H⟩ := H
     replace H := zj H
     obtain ⟨c7, A8, H⟩ := H
     try dsimp only at H
     replace H := zB0 H
     rcases H with ⟨rfl, H⟩ | ⟨rfl, H⟩
     ·have H' := Aside0.mk H
      clear H
      have p7 : 0 ≤ (a1 : Int) := zD
      have q7 : a1 < (a0.size : Int) := zD
      have b1 := bt_at a0 a1
      replace p7 := eq_true p7
      replace q7 := eq_true q7
      go_wp2_with (first | ((with_reducible refine zq 107 ?_); refine zg (some 13) Tryz.func107 #[.int .u8 (bt a0 a1)] ?_; (with_reducible refine (spec_l1Small.calls (bt a0 a1) true _ A8.out).mono ?_); rintro e w' ⟨rfl, ⟨nd, rfl⟩⟩; refine ⟨_, rfl, ?_⟩))
      go_roundg b3
      case measure => have := a4.out; have := a6.out; omega
      case rel => exact ⟨(wrap64 (a1 + 1)), zS, H', ⟨by have := a4.out; have := a6.out; omega⟩, by repeat (first | exact Drawn0.refl _ | apply Drawn0.step)⟩
     ·replace H := zI1 H
      rcases H with ⟨a7, H⟩ | ⟨a7, H⟩
      ·have b7 := beq_iff_eq.mpr a7
       have b8 := bne_eq_false_iff_eq.mpr a7
       clear a7
       obtain rfl := Option.some.inj H
       have p7 : 0 ≤ (a1 : Int) := zD
       have q7 : a1 < (a0.size : Int) := zD
       have b1 := bt_at a0 a1
       replace p7 := eq_true p7
       replace q7 := eq_true q7
       go_wp2_with (first | ((with_reducible refine zq 107 ?_); refine zg (some 13) Tryz.func107 #[.int .u8 (bt a0 a1)] ?_; (with_reducible refine (spec_l1Small.calls (bt a0 a1) false _ A8.out).mono ?_); rintro e w' ⟨rfl, ⟨nd, rfl⟩⟩; refine ⟨_, rfl, ?_⟩))
       go_ret
       exact ⟨by first | rfl | (simp; done) | (simp [*]; done) | (simp; rw [Bool.eq_iff_iff]; simp; done), by repeat (first | exact Drawn0.refl _ | apply Drawn0.step)⟩
      ·have b7 := beq_eq_false_iff_ne.mpr a7
       have b8 := bne_iff_ne.mpr a7
       replace H := zj H
       obtain ⟨c8, b4, H⟩ := H
       try dsimp only at H
       replace H := zB0 H
       rcases H with ⟨rfl, H⟩ | ⟨rfl, H⟩
       ·have H' := Aside0.mk H
        clear H
        have p7 : 0 ≤ (a1 : Int) := zD
        have q7 : a1 < (a0.size : Int) := zD
        have b1 := bt_at a0 a1
        replace p7 := eq_true p7
        replace q7 := eq_true q7
        go_wp2_with (first | ((with_reducible refine zq 107 ?_); refine zg (some 13) Tryz.func107 #[.int .u8 (bt a0 a1)] ?_; (with_reducible refine (spec_l1Small.calls (bt a0 a1) false _ A8.out).mono ?_); rintro e w' ⟨rfl, ⟨nd, rfl⟩⟩; refine ⟨_, rfl, ?_⟩; have a2 : 0 ≤ (a1 : Int) := zD; have a3 : a1 < (a0.size : Int) := zD; have b5 := bt_at a0 a1; replace a2 := eq_true a2; replace a3 := eq_true a3) | (go_at_call 108; (with_reducible refine (spec_l1Digit.calls (bt a0 a1) true _ b4.out).mono ?_); rintro e w' ⟨rfl, ⟨nd, rfl⟩⟩))
        go_roundg b3
        case measure => have := a4.out; have := a6.out; omega
        case rel => exact ⟨(wrap64 (a1 + 1)), zS, H', ⟨by have := a4.out; have := a6.out; omega⟩, by repeat (first | exact Drawn0.refl _ | apply Drawn0.step)⟩
       ·replace H := zI1 H
        rcases H with ⟨a8, H⟩ | ⟨a8, H⟩
        ·have b9 := beq_iff_eq.mpr a8
         have c0 := bne_eq_false_iff_eq.mpr a8
         clear a8
         have H' := Aside0.mk H
         clear H
         have p7 : 0 ≤ (a1 : Int) := zD
         have q7 : a1 < (a0.size : Int) := zD
         have b1 := bt_at a0 a1
         replace p7 := eq_true p7
         replace q7 := eq_true q7
         go_wp2_with (first | ((with_reducible refine zq 107 ?_); refine zg (some 13) Tryz.func107 #[.int .u8 (bt a0 a1)] ?_; (with_reducible refine (spec_l1Small.calls (bt a0 a1) false _ A8.out).mono ?_); rintro e w' ⟨rfl, ⟨nd, rfl⟩⟩; refine ⟨_, rfl, ?_⟩; have a2 : 0 ≤ (a1 : Int) := zD; have a3 : a1 < (a0.size : Int) := zD; have b5 := bt_at a0 a1; replace a2 := eq_true a2; replace a3 := eq_true a3) | (go_at_call 108; (with_reducible refine (spec_l1Digit.calls (bt a0 a1) false _ b4.out).mono ?_); rintro e w' ⟨rfl, ⟨nd, rfl⟩⟩; have a9 : 0 ≤ (a1 : Int) := zD; have b0 : a1 < (a0.size : Int) := zD; have c2 := bt_at a0 a1; replace a9 := eq_true a9; replace b0 := eq_true b0))
         go_roundg b3
         case measure => have := a4.out; have := a6.out; omega
         case rel => exact ⟨(wrap64 (a1 + 1)), zS, H', ⟨by have := a4.out; have := a6.out; omega⟩, by repeat (first | exact Drawn0.refl _ | apply Drawn0.step)⟩
        ·have b9 := beq_eq_false_iff_ne.mpr a8
         have c0 := bne_iff_ne.mpr a8
         obtain rfl := Option.some.inj H
         have p7 : 0 ≤ (a1 : Int) := zD
         have q7 : a1 < (a0.size : Int) := zD
         have b1 := bt_at a0 a1
         replace p7 := eq_true p7
         replace q7 := eq_true q7
         go_wp2_with (first | ((with_reducible refine zq 107 ?_); refine zg (some 13) Tryz.func107 #[.int .u8 (bt a0 a1)] ?_; (with_reducible refine (spec_l1Small.calls (bt a0 a1) false _ A8.out).mono ?_); rintro e w' ⟨rfl, ⟨nd, rfl⟩⟩; refine ⟨_, rfl, ?_⟩; have a2 : 0 ≤ (a1 : Int) := zD; have a3 : a1 < (a0.size : Int) := zD; have b5 := bt_at a0 a1; replace a2 := eq_true a2; replace a3 := eq_true a3) | (go_at_call 108; (with_reducible refine (spec_l1Digit.calls (bt a0 a1) false _ b4.out).mono ?_); rintro e w' ⟨rfl, ⟨nd, rfl⟩⟩; have a9 : 0 ≤ (a1 : Int) := zD; have b0 : a1 < (a0.size : Int) := zD; have c2 := bt_at a0 a1; replace a9 := eq_true a9; replace b0 := eq_true b0))
         go_ret
         exact ⟨by first | rfl | (simp; done) | (simp [*]; done) | (simp; rw [Bool.eq_iff_iff]; simp; done), by repeat (first | exact Drawn0.refl _ | apply Drawn0.step)⟩
/-! ### spec_l7Names: function 54 -/
def spec_l7Names.l0 : Nat → List ByteArray → Int → Option (Bool)
 | 0, _, _ => none
 | k + 1, x0, x3 => if x3 < (x0.length : Int) then (if 0 ≤ x3 then ((spec_NameOk.f k (rdOf ByteArray.empty x0 x3)).bind fun a0 => (if a0 = true then (spec_l7Names.l0 k x0 (wrap64 (x3 + 1))) else (some false))) else (none)) else (some true)
def spec_l7Names.f (k : Nat) (l0 : List ByteArray) : Option (Bool) := spec_l7Names.l0 k l0 0
theorem spec_l7Names.calls (k : Nat) (A0 : Option Addr) (c0 : Nat) (l0 : List ByteArray) (r : Bool) (w : World) (a4 : Kd.C Kd.string w A0 l0.length l0) (a5 : l0.length ≤ c0) (h : spec_l7Names.f k l0 = some r) :
  Calls Tryz.prog 54 #[.slice A0 l0.length c0] w fun e w' => e = .returned (.bool r) ∧ Drawn0 w w' := by
 have a6 := Aside0.mk a4
 have b1 := Aside0.mk a5
 clear a4 a5
 unfold spec_l7Names.f at h
 have H := h
 clear h
 have H' := Aside0.mk H
 clear H
 go_enter Tryz.func54, Tryz.ntmps54
 go_wp2
 go_loopg [3] k (fun kq v3 w' => ∃ (a0 : Int), v3 = .int .i64 a0 ∧ Aside0 (spec_l7Names.l0 kq l0 a0 = some r) ∧ Aside0 (kq ≤ k) ∧ Drawn0 w w')
 case atStart => exact ⟨(0), zS, H', ⟨Nat.le_refl _⟩, by repeat (first | exact Drawn0.refl _ | apply Drawn0.step)⟩
 case round =>
  clear H'
  obtain ⟨a0, rfl, HA, a7, ⟨m1, rfl⟩⟩ := hrel
  cases gk with
  | zero => exact absurd HA.out (by simp [spec_l7Names.l0])
  | succ k1 =>
   have H := HA.out
   clear HA
   simp only [spec_l7Names.l0] at H
   replace H := zI0 H
   rcases H with ⟨a8, H⟩ | ⟨a8, H⟩
   ·replace H := zD0 H
    obtain ⟨b2, H⟩ := H
    replace H := zj H
    obtain ⟨b3, A4, H⟩ := H
    try dsimp only at H
    replace H := zB0 H
    rcases H with ⟨rfl, H⟩ | ⟨rfl, H⟩
    ·have H' := Aside0.mk H
     clear H
     have a1 : 0 ≤ (a0 : Int) := zD
     have a2 : a0 < (l0.length : Int) := zD
     obtain ⟨a9, a3, b0⟩ := Kd.at_string a6.out a0 a1 a2
     cases a3
     replace a1 := eq_true a1
     replace a2 := eq_true a2
     go_wp2_with (first | ((with_reducible refine zq 53 ?_); refine zg (some 14) Tryz.func53 #[.string (rdOf ByteArray.empty l0 a0)] ?_; (with_reducible refine (spec_NameOk.calls k1 (rdOf ByteArray.empty l0 a0) true _ A4.out).mono ?_); rintro e w' ⟨rfl, ⟨nd, rfl⟩⟩; refine ⟨_, rfl, ?_⟩))
     go_roundg k1
     case measure => have := a7.out; omega
     case rel => exact ⟨(wrap64 (a0 + 1)), zS, H', ⟨by have := a7.out; omega⟩, by repeat (first | exact Drawn0.refl _ | apply Drawn0.step)⟩
    ·obtain rfl := Option.some.inj H
     have a1 : 0 ≤ (a0 : Int) := zD
     have a2 : a0 < (l0.length : Int) := zD
     obtain ⟨a9, a3, b0⟩ := Kd.at_string a6.out a0 a1 a2
     cases a3
     replace a1 := eq_true a1
     replace a2 := eq_true a2
     go_wp2_with (first | ((with_reducible refine zq 53 ?_); refine zg (some 14) Tryz.func53 #[.string (rdOf ByteArray.empty l0 a0)] ?_; (with_reducible refine (spec_NameOk.calls k1 (rdOf ByteArray.empty l0 a0) false _ A4.out).mono ?_); rintro e w' ⟨rfl, ⟨nd, rfl⟩⟩; refine ⟨_, rfl, ?_⟩))
     go_ret
     exact ⟨by first | rfl | (simp; done) | (simp [*]; done) | (simp; rw [Bool.eq_iff_iff]; simp; done), by repeat (first | exact Drawn0.refl _ | apply Drawn0.step)⟩
   ·obtain rfl := Option.some.inj H
    go_wp2
    go_ret
    exact ⟨by first | rfl | (simp; done) | (simp [*]; done) | (simp; rw [Bool.eq_iff_iff]; simp; done), by repeat (first | exact Drawn0.refl _ | apply Drawn0.step)⟩
/-! ### spec_l7Ascending: function 55 -/
def spec_l7Ascending.l0 : Nat → List ByteArray → Int → Option (Bool)
 | 0, _, _ => none
 | k + 1, x0, x3 => if x3 < (x0.length : Int) then (if 0 ≤ (wrap64 (x3 - 1)) then (if (wrap64 (x3 - 1)) < (x0.length : Int) then (if 0 ≤ x3 then (if ((Op.bytesLess ((rdOf ByteArray.empty x0 (wrap64 (x3 - 1))).toList) ((rdOf ByteArray.empty x0 x3).toList)) = true) then (spec_l7Ascending.l0 k x0 (wrap64 (x3 + 1))) else (some false)) else (none)) else (none)) else (none)) else (some true)
def spec_l7Ascending.f (k : Nat) (l0 : List ByteArray) : Option (Bool) := spec_l7Ascending.l0 k l0 1
theorem spec_l7Ascending.calls (k : Nat) (A0 : Option Addr) (c0 : Nat) (l0 : List ByteArray) (r : Bool) (w : World) (b2 : Kd.C Kd.string w A0 l0.length l0) (b3 : l0.length ≤ c0) (h : spec_l7Ascending.f k l0 = some r) :
  Calls Tryz.prog 55 #[.slice A0 l0.length c0] w fun e w' => e = .returned (.bool r) ∧ Drawn0 w w' := by
 have a6 := Aside0.mk b2
 have b9 := Aside0.mk b3
 clear b2 b3
 unfold spec_l7Ascending.f at h
 have H := h
 clear h
 have H' := Aside0.mk H
 clear H
 go_enter Tryz.func55, Tryz.ntmps55
 go_wp2
 repeat (go_quiet (fail); try go_wp2)
 go_loopg [3] k (fun kq v3 w' => ∃ (a0 : Int), v3 = .int .i64 a0 ∧ Aside0 (spec_l7Ascending.l0 kq l0 a0 = some r) ∧ Aside0 (kq ≤ k) ∧ Drawn0 w w')
 case atStart => exact ⟨(1), zS, H', ⟨Nat.le_refl _⟩, by repeat (first | exact Drawn0.refl _ | apply Drawn0.step)⟩
 case round =>
  clear H'
  obtain ⟨a0, rfl, HA, b4, ⟨m1, rfl⟩⟩ := hrel
  cases gk with
  | zero => exact absurd HA.out (by simp [spec_l7Ascending.l0])
  | succ k1 =>
   have H := HA.out
   clear HA
   simp only [spec_l7Ascending.l0] at H
   replace H := zI0 H
   rcases H with ⟨b5, H⟩ | ⟨b5, H⟩
   ·obtain ⟨a1, a7⟩ : ∃ j_ : Int, (wrap64 (a0 - 1)) = j_ := ⟨_, rfl⟩
    replace H : (if 0 ≤ (a1) then (if (a1) < (l0.length : Int) then (if 0 ≤ a0 then (if ((Op.bytesLess ((rdOf ByteArray.empty l0 (a1)).toList) ((rdOf ByteArray.empty l0 a0).toList)) = true) then (spec_l7Ascending.l0 k1 l0 (wrap64 (a0 + 1))) else (some false)) else (none)) else (none)) else (none)) = some r := by first | (rw [a7] at H; exact H) | (simp only [a7] at H ⊢; exact H)
    have hji3w : (IntKind.i64.wrap (a0 - 1)) = a1 := (i64_w _).trans a7
    replace H := zD0 H
    obtain ⟨c1, H⟩ := H
    replace H := zD0 H
    obtain ⟨c2, H⟩ := H
    replace H := zD0 H
    obtain ⟨c3, H⟩ := H
    replace H := zI1 H
    rcases H with ⟨c7, H⟩ | ⟨c7, H⟩
    ·have b6 : (Op.bytesLess ((rdOf ByteArray.empty l0 (a1)).toList) ((rdOf ByteArray.empty l0 a0).toList)) = true := c7
     clear c7
     have H' := Aside0.mk H
     clear H
     have a2 : 0 ≤ ((a1) : Int) := zD
     have a3 : (a1) < (l0.length : Int) := zD
     obtain ⟨a8, a9, b7⟩ := Kd.at_string a6.out (a1) a2 a3
     cases a9
     replace a2 := eq_true a2
     replace a3 := eq_true a3
     have a4 : 0 ≤ (a0 : Int) := zD
     have a5 : a0 < (l0.length : Int) := zD
     obtain ⟨b0, b1, b8⟩ := Kd.at_string a6.out a0 a4 a5
     obtain rfl : a8 = b0 := (by injection b1)
     replace a4 := eq_true a4
     replace a5 := eq_true a5
     go_wp2
     repeat (go_quiet (fail); try go_wp2)
     go_roundg k1
     case measure => have := b4.out; omega
     case rel => exact ⟨(wrap64 (a0 + 1)), zS, H', ⟨by have := b4.out; omega⟩, by repeat (first | exact Drawn0.refl _ | apply Drawn0.step)⟩
    ·have b6 : (Op.bytesLess ((rdOf ByteArray.empty l0 (a1)).toList) ((rdOf ByteArray.empty l0 a0).toList)) = false := by simpa using c7
     clear c7
     obtain rfl := Option.some.inj H
     have a2 : 0 ≤ ((a1) : Int) := zD
     have a3 : (a1) < (l0.length : Int) := zD
     obtain ⟨a8, a9, b7⟩ := Kd.at_string a6.out (a1) a2 a3
     cases a9
     replace a2 := eq_true a2
     replace a3 := eq_true a3
     have a4 : 0 ≤ (a0 : Int) := zD
     have a5 : a0 < (l0.length : Int) := zD
     obtain ⟨b0, b1, b8⟩ := Kd.at_string a6.out a0 a4 a5
     obtain rfl : a8 = b0 := (by injection b1)
     replace a4 := eq_true a4
     replace a5 := eq_true a5
     go_wp2
     repeat (go_quiet (fail); try go_wp2)
     go_ret
     exact ⟨by first | rfl | (simp; done) | (simp only [← a7] <;> (first | rfl | simp)) | (simp [*]; done), by repeat (first | exact Drawn0.refl _ | apply Drawn0.step)⟩
   ·obtain rfl := Option.some.inj H
    go_wp2
    repeat (go_quiet (fail); try go_wp2)
    go_ret
    exact ⟨by first | rfl | (simp; done) | (simp [*]; done) | (simp; rw [Bool.eq_iff_iff]; simp; done), by repeat (first | exact Drawn0.refl _ | apply Drawn0.step)⟩
/-! ### spec_l4Sides: function 76 -/
def spec_l4Sides.l0 : Nat → ByteArray → List ByteArray → Int → Int → Option (List ByteArray)
 | 0, _, _, _, _ => none
 | k + 1, x0, x3, x4, x5 => if (wrap64 (x5 + 1)) < (x0.size : Int) then (if 0 ≤ x5 then (if x5 < (x0.size : Int) then (if (bt x0 x5) = 124 then (if 0 ≤ (wrap64 (x5 + 1)) then (if (bt x0 (wrap64 (x5 + 1))) = 124 then (if 0 ≤ x4 then (if x4 ≤ x5 then (if x5 ≤ (x0.size : Int) then (if x3.length < 8796093022208 then (spec_l4Sides.l0 k x0 (x3 ++ [x0.extract (x4 : Int).toNat (x5 : Int).toNat]) (wrap64 (x5 + 2)) (wrap64 ((wrap64 (x5 + 1)) + 1))) else (none)) else (none)) else (none)) else (none)) else (spec_l4Sides.l0 k x0 x3 x4 (wrap64 (x5 + 1)))) else (none)) else (spec_l4Sides.l0 k x0 x3 x4 (wrap64 (x5 + 1)))) else (none)) else (none)) else (if 0 ≤ x4 then (if x4 ≤ (x0.size : Int) then (if x3.length < 8796093022208 then (some (x3 ++ [x0.extract (x4 : Int).toNat x0.size])) else (none)) else (none)) else (none))
def spec_l4Sides.f (k : Nat) (a0 : ByteArray) : Option (List ByteArray) := spec_l4Sides.l0 k a0 (([] : List ByteArray)) 0 0
theorem spec_l4Sides.calls (k : Nat) (a0 : ByteArray) (r : List ByteArray) (w : World) (h : spec_l4Sides.f k a0 = some r) :
  Calls Tryz.prog 76 #[.string a0] w fun e w' => ∃ c0 : Value, e = .returned (c0) ∧ Kd.R Kd.string 9 w' w.heap.size (fun _ => True) c0 r ∧ Below w.heap.size w w' := by
 have HB := zA (Below.refl w.heap.size w)
 unfold spec_l4Sides.f at h
 have H := h
 clear h
 obtain ⟨c1, b2⟩ : ∃ y_ : List ByteArray, y_ = (([] : List ByteArray)) := ⟨_, rfl⟩
 replace H : (spec_l4Sides.l0 k a0 c1 0 0) = some r := zY b2 H
 have c2 := Aside0.mk b2
 clear b2
 have H' := Aside0.mk H
 clear H
 go_enter Tryz.func76, Tryz.ntmps76
 go_wp2_with (first | ((with_reducible refine gate_dst (N := 6) rfl ?_); refine Kd.R_lit Kd.string _ 9 ?hg (N := 6) ?hd (xs := ([] : List ByteArray)) (inner := []) (ok := fun _ => True) ?hr ?hp (fun _ hk => hk) trivial (Below.refl _ _) (Nat.le_refl _) (by simp) ?_; (case hd => rfl); (case hg => rfl); (case hr => first | (go_simp; done) | (go_simp; rfl)); (case hp => exact (Reps.none _ _)); intro e2 w2 a9 hb hg_ hnew_; clear hg_ hnew_; (first | rw [← c2.out] at a9 | (simp only [Int.reduceToNat] at a9; rw [← c2.out] at a9)); have c9 := zA (Kd.R_lower a9 (below_size (zB))); replace HB := zA (below_step (zB) hb); clear hb a9))
 go_loopg [3, 4, 5] k (fun kq v3 v4 v5 w' => ∃ (a4 : List ByteArray) (a2 : Int) (a1 : Int), v4 = .int .i64 a2 ∧ v5 = .int .i64 a1 ∧ Aside0 (spec_l4Sides.l0 kq a0 a4 a2 a1 = some r) ∧ Aside0 (kq ≤ k) ∧ Aside0 (Kd.R Kd.string 9 w' w.heap.size (fun _ => True) v3 a4) ∧ Aside0 (Below w.heap.size w w'))
 case atStart => exact ⟨(c1), (0), (0), zS, zS, H', ⟨Nat.le_refl _⟩, ⟨zR c9.out⟩, ⟨zB⟩⟩
 case round =>
  clear H'
  try clear p2
  obtain ⟨a4, a2, a1, rfl, rfl, HA, a5, a6, HB⟩ := hrel
  cases gk with
  | zero => exact absurd HA.out (by simp [spec_l4Sides.l0])
  | succ k1 =>
   have H := HA.out
   clear HA
   simp only [spec_l4Sides.l0] at H
   replace H := zI0 H
   rcases H with ⟨c3, H⟩ | ⟨c3, H⟩
   ·replace H := zD0 H
    obtain ⟨e3, H⟩ := H
    replace H := zD0 H
    obtain ⟨e4, H⟩ := H
    replace H := zI1 H
    rcases H with ⟨c8, H⟩ | ⟨c8, H⟩
    ·have d0 := beq_iff_eq.mpr c8
     have d1 := bne_eq_false_iff_eq.mpr c8
     clear c8
     obtain ⟨a3, a7⟩ : ∃ j_ : Int, (wrap64 (a1 + 1)) = j_ := ⟨_, rfl⟩
     replace H : (if 0 ≤ (a3) then (if (bt a0 (a3)) = 124 then (if 0 ≤ a2 then (if a2 ≤ a1 then (if a1 ≤ (a0.size : Int) then (if a4.length < 8796093022208 then (spec_l4Sides.l0 k1 a0 (a4 ++ [a0.extract (a2 : Int).toNat (a1 : Int).toNat]) (wrap64 (a1 + 2)) (wrap64 ((a3) + 1))) else (none)) else (none)) else (none)) else (none)) else (spec_l4Sides.l0 k1 a0 a4 a2 a3)) else (none)) = some r := by first | (rw [a7] at H; exact H) | (simp only [a7] at H ⊢; exact H)
     (try rw [a7] at c3)
     have hji9w : (IntKind.i64.wrap (a1 + 1)) = a3 := (i64_w _).trans a7
     replace H := zD0 H
     obtain ⟨e5, H⟩ := H
     replace H := zI1 H
     rcases H with ⟨a8, H⟩ | ⟨a8, H⟩
     ·have d2 := beq_iff_eq.mpr a8
      have d3 := bne_eq_false_iff_eq.mpr a8
      clear a8
      replace H := zC0 H
      obtain ⟨b3, H⟩ := H
      have e6 := eq_true b3
      have e7 := decide_eq_true b3
      clear b3
      replace H := zC0 H
      obtain ⟨b4, H⟩ := H
      have e8 := eq_true b4
      have e9 := decide_eq_true b4
      clear b4
      replace H := zC0 H
      obtain ⟨b5, H⟩ := H
      have f0 := eq_true b5
      have f1 := decide_eq_true b5
      clear b5
      replace H := zC0 H
      obtain ⟨c4, H⟩ := H
      have d4 := Aside0.mk c4
      clear c4
      obtain ⟨c5, b6⟩ : ∃ y_ : List ByteArray, y_ = (a4 ++ [a0.extract (a2 : Int).toNat (a1 : Int).toNat]) := ⟨_, rfl⟩
      replace H : (spec_l4Sides.l0 k1 a0 c5 (wrap64 (a1 + 2)) (wrap64 ((a3) + 1))) = some r := zY b6 H
      have d5 := Aside0.mk b6
      clear b6
      have H' := Aside0.mk H
      clear H
      have p7 : 0 ≤ (a1 : Int) := zD
      have q7 : a1 < (a0.size : Int) := zD
      have c6 := bt_at a0 a1
      replace p7 := eq_true p7
      replace q7 := eq_true q7
      have b0 : 0 ≤ ((a3) : Int) := zD
      have b1 : (a3) < (a0.size : Int) := zD
      have d6 := bt_at a0 (a3)
      replace b0 := eq_true b0
      replace b1 := eq_true b1
      go_wp2_with (first | ((with_reducible refine gate_builtin (b := .append) (xs := #[.tmp 25, .tmp 30]) rfl ?_); at_builtin; refine Kd.R_append Kd.string (w0 := w) w.heap.size rfl (.tmp 25) (.tmp 30) 24 9 (.string ⟨#[]⟩) 16 rfl Tryz.underlying24 info9 rfl (by decide) (by omega) u3 a4 (a0.extract (a2 : Int).toNat (a1 : Int).toNat) [.string (a0.extract (a2 : Int).toNat (a1 : Int).toNat)] (fun _ => True) (fun _ => False) rfl rfl ?aP (fun _ hk => hk.elim) ?aF ?aO ?aB ?aS ?aL ?_; (case aP => exact rfl); (case aB => exact (zB)); (case aF => exact (fun _ _ => trivial)); (case aO => exact (zR a6.out)); (case aS => exact (below_size (zB))); (case aL => have := d4.out; omega); intro f2 f3 ho hb hg hat; rw [← d5.out] at ho; replace HB := zA (hb); have d7 := zA (ho); clear a6; clear ho hb hg hat))
      go_roundg k1
      case measure => have := a5.out; omega
      case rel => exact ⟨(c5), (wrap64 (a1 + 2)), (wrap64 ((a3) + 1)), zS, (by first | rfl | (simp; done) | (simp only [← a7] <;> (first | rfl | simp)) | (simp [*]; done)), H', ⟨by have := a5.out; omega⟩, ⟨zR d7.out⟩, ⟨zB⟩⟩
     ·have d2 := beq_eq_false_iff_ne.mpr a8
      have d3 := bne_iff_ne.mpr a8
      have H' := Aside0.mk H
      clear H
      have p7 : 0 ≤ (a1 : Int) := zD
      have q7 : a1 < (a0.size : Int) := zD
      have c6 := bt_at a0 a1
      replace p7 := eq_true p7
      replace q7 := eq_true q7
      have b0 : 0 ≤ ((a3) : Int) := zD
      have b1 : (a3) < (a0.size : Int) := zD
      have d6 := bt_at a0 (a3)
      replace b0 := eq_true b0
      replace b1 := eq_true b1
      go_wp2
      go_roundg k1
      case measure => have := a5.out; omega
      case rel => exact ⟨(a4), (a2), (a3), zS, (by first | rfl | (simp; done) | (simp only [← a7] <;> (first | rfl | simp)) | (simp [*]; done)), H', ⟨by have := a5.out; omega⟩, ⟨zR a6.out⟩, ⟨zB⟩⟩
    ·have d0 := beq_eq_false_iff_ne.mpr c8
     have d1 := bne_iff_ne.mpr c8
     have H' := Aside0.mk H
     clear H
     have p7 : 0 ≤ (a1 : Int) := zD
     have q7 : a1 < (a0.size : Int) := zD
     have c6 := bt_at a0 a1
     replace p7 := eq_true p7
     replace q7 := eq_true q7
     go_wp2
     go_roundg k1
     case measure => have := a5.out; omega
     case rel => exact ⟨(a4), (a2), (wrap64 (a1 + 1)), zS, zS, H', ⟨by have := a5.out; omega⟩, ⟨zR a6.out⟩, ⟨zB⟩⟩
   ·replace H := zC0 H
    obtain ⟨b7, H⟩ := H
    have f4 := eq_true b7
    have f5 := decide_eq_true b7
    clear b7
    replace H := zC0 H
    obtain ⟨b8, H⟩ := H
    have f6 := eq_true b8
    have f7 := decide_eq_true b8
    clear b8
    replace H := zC0 H
    obtain ⟨c7, H⟩ := H
    have d8 := Aside0.mk c7
    clear c7
    obtain ⟨d9, b9⟩ : ∃ y_ : List ByteArray, y_ = (a4 ++ [a0.extract (a2 : Int).toNat a0.size]) := ⟨_, rfl⟩
    replace H : (some d9) = some r := zY b9 H
    have e0 := Aside0.mk b9
    clear b9
    obtain rfl := Option.some.inj H
    go_wp2_with (first | ((with_reducible refine gate_builtin (b := .append) (xs := #[.tmp 36, .tmp 40]) rfl ?_); at_builtin; refine Kd.R_append Kd.string (w0 := w) w.heap.size rfl (.tmp 36) (.tmp 40) 24 9 (.string ⟨#[]⟩) 16 rfl Tryz.underlying24 info9 rfl (by decide) (by omega) u3 a4 (a0.extract (a2 : Int).toNat a0.size) [.string (a0.extract (a2 : Int).toNat a0.size)] (fun _ => True) (fun _ => False) rfl rfl ?aP (fun _ hk => hk.elim) ?aF ?aO ?aB ?aS ?aL ?_; (case aP => exact rfl); (case aB => exact (zB)); (case aF => exact (fun _ _ => trivial)); (case aO => exact (zR a6.out)); (case aS => exact (below_size (zB))); (case aL => have := d8.out; omega); intro f8 f9 ho hb hg hat; rw [← e0.out] at ho; replace HB := zA (hb); have e1 := zA (ho); clear a6; clear ho hb hg hat))
    go_ret
    exact ⟨_, zE, zR e1.out, zB⟩
/-! ### spec_l3Digits: function 150 -/
def spec_l3Digits.l0 : Nat → ByteArray → Int → Option (Bool)
 | 0, _, _ => none
 | k + 1, x0, x3 => if x3 < (x0.size : Int) then (if 0 ≤ x3 then ((spec_l1Digit.f (bt x0 x3)).bind fun a0 => (if a0 = true then (spec_l3Digits.l0 k x0 (wrap64 (x3 + 1))) else (some false))) else (none)) else (some true)
def spec_l3Digits.f (k : Nat) (a0 : ByteArray) : Option (Bool) := spec_l3Digits.l0 k a0 0
theorem spec_l3Digits.calls (k : Nat) (a0 : ByteArray) (r : Bool) (w : World) (h : spec_l3Digits.f k a0 = some r) :
  Calls Tryz.prog 150 #[.string a0] w fun e w' => e = .returned (.bool r) ∧ Drawn0 w w' := by
 unfold spec_l3Digits.f at h
 have H := h
 clear h
 have H' := Aside0.mk H
 clear H
 go_enter Tryz.func150, Tryz.ntmps150
 go_wp2
 go_loopg [3] k (fun kq v3 w' => ∃ (a1 : Int), v3 = .int .i64 a1 ∧ Aside0 (spec_l3Digits.l0 kq a0 a1 = some r) ∧ Aside0 (kq ≤ k) ∧ Drawn0 w w')
 case atStart => exact ⟨(0), zS, H', ⟨Nat.le_refl _⟩, by repeat (first | exact Drawn0.refl _ | apply Drawn0.step)⟩
 case round =>
  clear H'
  try clear c1
  obtain ⟨a1, rfl, HA, a2, ⟨m1, rfl⟩⟩ := hrel
  cases gk with
  | zero => exact absurd HA.out (by simp [spec_l3Digits.l0])
  | succ k1 =>
   have H := HA.out
   clear HA
   simp only [spec_l3Digits.l0] at H
   replace H := zI0 H
   rcases H with ⟨a3, H⟩ | ⟨a3, H⟩
   ·replace H := zD0 H
    obtain ⟨a5, H⟩ := H
    replace H := zj H
    obtain ⟨a6, A5, H⟩ := H
    try dsimp only at H
    replace H := zB0 H
    rcases H with ⟨rfl, H⟩ | ⟨rfl, H⟩
    ·have H' := Aside0.mk H
     clear H
     have p4 : 0 ≤ (a1 : Int) := zD
     have q4 : a1 < (a0.size : Int) := zD
     have a4 := bt_at a0 a1
     replace p4 := eq_true p4
     replace q4 := eq_true q4
     go_wp2_with (first | ((with_reducible refine zq 108 ?_); refine zg (some 13) Tryz.func108 #[.int .u8 (bt a0 a1)] ?_; (with_reducible refine (spec_l1Digit.calls (bt a0 a1) true _ A5.out).mono ?_); rintro e w' ⟨rfl, ⟨nd, rfl⟩⟩; refine ⟨_, rfl, ?_⟩))
     go_roundg k1
     case measure => have := a2.out; omega
     case rel => exact ⟨(wrap64 (a1 + 1)), zS, H', ⟨by have := a2.out; omega⟩, by repeat (first | exact Drawn0.refl _ | apply Drawn0.step)⟩
    ·obtain rfl := Option.some.inj H
     have p4 : 0 ≤ (a1 : Int) := zD
     have q4 : a1 < (a0.size : Int) := zD
     have a4 := bt_at a0 a1
     replace p4 := eq_true p4
     replace q4 := eq_true q4
     go_wp2_with (first | ((with_reducible refine zq 108 ?_); refine zg (some 13) Tryz.func108 #[.int .u8 (bt a0 a1)] ?_; (with_reducible refine (spec_l1Digit.calls (bt a0 a1) false _ A5.out).mono ?_); rintro e w' ⟨rfl, ⟨nd, rfl⟩⟩; refine ⟨_, rfl, ?_⟩))
     go_ret
     exact ⟨by first | rfl | (simp; done) | (simp [*]; done) | (simp; rw [Bool.eq_iff_iff]; simp; done), by repeat (first | exact Drawn0.refl _ | apply Drawn0.step)⟩
   ·obtain rfl := Option.some.inj H
    go_wp2
    go_ret
    exact ⟨by first | rfl | (simp; done) | (simp [*]; done) | (simp; rw [Bool.eq_iff_iff]; simp; done), by repeat (first | exact Drawn0.refl _ | apply Drawn0.step)⟩
end Go.Proofs.YtpcdhoeoefoeoaaGreatDoor.PGC
