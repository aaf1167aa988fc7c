/- The walks of the functions that these laws reach, and what each comes to: printed by this session's program. -/
import Derived.Test.YtpmooegakomnbaaDoorZGHPGHx0
import Derived.Test.YtpmooegakomnbaaDoorZGHPGHx8
import Derived.Test.YtpmooegakomnbaaDoorZGHSays
namespace Go.Proofs.YtpmooegakomnbaaDoor.PGH
open Go.RowKit Go.Proofs.YtpmooegakomnbaaDoorW.PrintWords Go.Proofs.YtpmooegakomnbaaDoorW.PrintLast Go.Proofs.YtpmooegakomnbaaDoorW.PrintMore
attribute [local go_sem high] Go.Proofs.YtpmooegakomnbaaDoor.Mine.str_gtr Go.Proofs.YtpmooegakomnbaaDoor.Mine.str_leq Go.Proofs.YtpmooegakomnbaaDoor.Mine.str_geq
attribute [local go_sem] max2_int min2_int max_two min_two max_three min_three max_four min_four   -- for this text's walks alone
set_option linter.unusedVariables false
set_option maxHeartbeats 8000000
set_option maxRecDepth 100000
set_option linter.unusedSimpArgs false
/-! ### impl_fileNameOk: function 45 -/
def impl_fileNameOk.l0 : Nat → ByteArray → Int → Option (Bool)
 | 0, _, _ => none
 | k + 1, x0, x3 => if x3 < (x0.size : Int) then (if 0 ≤ x3 then ((impl_isPathByte.f (bt x0 x3)).bind fun t210 => (if t210 = true then (impl_fileNameOk.l0 k x0 (wrap64 (x3 + 1))) else (some false))) else (none)) else ((impl_inRange.f (x0.size : Int) 1 12).bind fun t211 => (if t211 = true then (if x0.toList = ([46] : List UInt8) then (some false) else (some (x0.toList != ([46, 46] : List UInt8)))) else (some false)))
def impl_fileNameOk.f (k : Nat) (a0 : ByteArray) : Option (Bool) := impl_fileNameOk.l0 k a0 0
theorem impl_fileNameOk.calls (k : Nat) (a0 : ByteArray) (r : Bool) (w : World) (h : impl_fileNameOk.f k a0 = some r) :
  Calls Tryd.prog 45 #[.string a0] w fun e w' => e = .returned (.bool r) ∧ Drawn0 w w' := by
 have H : (impl_fileNameOk.l0 k a0 0) = some r := h
 clear h
 have H' := Aside0.mk H
 clear H
 go_enter Tryd.func45, Tryd.ntmps45
 go_wp2
 go_loopg [3] k (fun kq v3 w' => ∃ (x3_1 : Int), v3 = .int .i64 x3_1 ∧ Aside0 (impl_fileNameOk.l0 kq a0 x3_1 = some r) ∧ Aside0 (kq ≤ k) ∧ Drawn0 w w')
 case atStart => exact ⟨(0), zS, H', ⟨Nat.le_refl _⟩, by repeat (first | exact Drawn0.refl _ | apply Drawn0.step)⟩
 case round =>
  clear H'
  obtain ⟨x3_1, rfl, HA, HK1, ⟨m1, rfl⟩⟩ := hrel
  cases gk with
  | zero => exact absurd HA.out (by simp [impl_fileNameOk.l0])
  | succ k1 =>
   have H := HA.out
   clear HA
   simp only [impl_fileNameOk.l0] at H
   by_cases c2 : x3_1 < (a0.size : Int)
   ·rw [if_pos c2] at H
    have c2b0 : decide (x3_1 < (a0.size : Int)) = true := decide_eq_true c2
    clear c2
    by_cases c3 : 0 ≤ x3_1
    ·rw [if_pos c3] at H
     have c3b0 : decide (0 ≤ x3_1) = true := decide_eq_true c3
     clear c3
     replace H := Option.bind_eq_some_iff.mp H
     obtain ⟨t210, A50, H⟩ := H
     replace H : (if t210 = true then (impl_fileNameOk.l0 k1 a0 (wrap64 (x3_1 + 1))) else (some false)) = some r := H
     have A5 := Aside0.mk A50
     clear A50
     by_cases c6 : t210 = true
     ·subst c6
      have H1 : (impl_fileNameOk.l0 k1 a0 (wrap64 (x3_1 + 1))) = some r := by rw [if_pos rfl] at H; exact H
      clear H
      have H := H1
      clear H1
      have H' := Aside0.mk H
      clear H
      have p4 : 0 ≤ (x3_1 : Int) := zD
      have q4 : x3_1 < (a0.size : Int) := zD
      have hx4 := bt_at a0 x3_1
      replace p4 := eq_true p4
      replace q4 := eq_true q4
      go_wp2_with (first | ((with_reducible refine gate_callee (f := 63) rfl ?_); refine goesL_ (some 13) rfl rfl Tryd.func63 (by kernel_rfl) rfl #[.int .u8 (bt a0 x3_1)] rfl zM ?_; (with_reducible refine (impl_isPathByte.calls (bt a0 x3_1) true _ A5.out).mono ?_); rintro e w' ⟨rfl, ⟨nd, rfl⟩⟩; refine ⟨_, rfl, ?_⟩))
      go_roundg k1
      case measure => have := HK1.out; omega
      case rel => exact ⟨(wrap64 (x3_1 + 1)), zS, H', ⟨by have := HK1.out; omega⟩, by repeat (first | exact Drawn0.refl _ | apply Drawn0.step)⟩
     ·replace c6 := Bool.eq_false_iff.mpr c6
      subst c6
      have H1 : (some false) = some r := by rw [if_neg (show ¬ (false = true) by decide)] at H; exact H
      clear H
      have H := H1
      clear H1
      obtain rfl := Option.some.inj H
      have p4 : 0 ≤ (x3_1 : Int) := zD
      have q4 : x3_1 < (a0.size : Int) := zD
      have hx4 := bt_at a0 x3_1
      replace p4 := eq_true p4
      replace q4 := eq_true q4
      go_wp2_with (first | ((with_reducible refine gate_callee (f := 63) rfl ?_); refine goesL_ (some 13) rfl rfl Tryd.func63 (by kernel_rfl) rfl #[.int .u8 (bt a0 x3_1)] rfl zM ?_; (with_reducible refine (impl_isPathByte.calls (bt a0 x3_1) false _ A5.out).mono ?_); rintro e w' ⟨rfl, ⟨nd, rfl⟩⟩; refine ⟨_, rfl, ?_⟩))
      go_ret
      exact ⟨by first | rfl | (simp; done) | (simp [*]; done) | (simp; rw [Bool.eq_iff_iff]; simp; done), by repeat (first | exact Drawn0.refl _ | apply Drawn0.step)⟩
    ·rw [if_neg c3] at H
     exact absurd H (by simp)
   ·rw [if_neg c2] at H
    have c2b0 : decide (x3_1 < (a0.size : Int)) = false := decide_eq_false c2
    clear c2
    replace H := Option.bind_eq_some_iff.mp H
    obtain ⟨t211, A70, H⟩ := H
    replace H : (if t211 = true then (if a0.toList = ([46] : List UInt8) then (some false) else (some (a0.toList != ([46, 46] : List UInt8)))) else (some false)) = some r := H
    have A7 := Aside0.mk A70
    clear A70
    by_cases c8 : t211 = true
    ·subst c8
     have H1 : (if a0.toList = ([46] : List UInt8) then (some false) else (some (a0.toList != ([46, 46] : List UInt8)))) = some r := by rw [if_pos rfl] at H; exact H
     clear H
     have H := H1
     clear H1
     by_cases c9 : a0.toList = ([46] : List UInt8)
     ·rw [if_pos c9] at H
      have c9b0 : (a0.toList == ([46] : List UInt8)) = true := beq_iff_eq.mpr c9
      have c9b1 : (a0.toList != ([46] : List UInt8)) = false := bne_eq_false_iff_eq.mpr c9
      clear c9
      obtain rfl := Option.some.inj H
      go_wp2_with (first | ((with_reducible refine gate_callee (f := 64) rfl ?_); refine goesL_ (some 17) rfl rfl Tryd.func64 (by kernel_rfl) rfl #[.int .i64 (a0.size : Int), .int .i64 1, .int .i64 12] rfl zM ?_; (with_reducible refine (impl_inRange.calls (a0.size : Int) 1 12 true _ A7.out).mono ?_); rintro e w' ⟨rfl, ⟨nd, rfl⟩⟩; refine ⟨_, rfl, ?_⟩))
      go_ret
      exact ⟨by first | rfl | (simp; done) | (simp [*]; done) | (simp; rw [Bool.eq_iff_iff]; simp; done), by repeat (first | exact Drawn0.refl _ | apply Drawn0.step)⟩
     ·rw [if_neg c9] at H
      have c9b0 : (a0.toList == ([46] : List UInt8)) = false := beq_eq_false_iff_ne.mpr c9
      have c9b1 : (a0.toList != ([46] : List UInt8)) = true := bne_iff_ne.mpr c9
      obtain rfl := Option.some.inj H
      go_wp2_with (first | ((with_reducible refine gate_callee (f := 64) rfl ?_); refine goesL_ (some 17) rfl rfl Tryd.func64 (by kernel_rfl) rfl #[.int .i64 (a0.size : Int), .int .i64 1, .int .i64 12] rfl zM ?_; (with_reducible refine (impl_inRange.calls (a0.size : Int) 1 12 true _ A7.out).mono ?_); rintro e w' ⟨rfl, ⟨nd, rfl⟩⟩; refine ⟨_, rfl, ?_⟩))
      go_ret
      exact ⟨by first | rfl | (simp; done) | (simp [*]; done) | (simp; rw [Bool.eq_iff_iff]; simp; done), by repeat (first | exact Drawn0.refl _ | apply Drawn0.step)⟩
    ·replace c8 := Bool.eq_false_iff.mpr c8
     subst c8
     have H1 : (some false) = some r := by rw [if_neg (show ¬ (false = true) by decide)] at H; exact H
     clear H
     have H := H1
     clear H1
     obtain rfl := Option.some.inj H
     go_wp2_with (first | ((with_reducible refine gate_callee (f := 64) rfl ?_); refine goesL_ (some 17) rfl rfl Tryd.func64 (by kernel_rfl) rfl #[.int .i64 (a0.size : Int), .int .i64 1, .int .i64 12] rfl zM ?_; (with_reducible refine (impl_inRange.calls (a0.size : Int) 1 12 false _ A7.out).mono ?_); rintro e w' ⟨rfl, ⟨nd, rfl⟩⟩; refine ⟨_, rfl, ?_⟩))
     go_ret
     exact ⟨by first | rfl | (simp; done) | (simp [*]; done) | (simp; rw [Bool.eq_iff_iff]; simp; done), by repeat (first | exact Drawn0.refl _ | apply Drawn0.step)⟩
/-! ### impl_PathOk: function 18 -/
def impl_PathOk.l0 : Nat → List ByteArray → List ByteArray → Int → Int → Option (Bool)
 | 0, _, _, _, _ => none
 | k + 1, x3, x8, x9, x10 => if x10 < x9 then (if 0 ≤ x10 then (if x10 < (x8.length : Int) then ((impl_fileNameOk.f k (rdOf ByteArray.empty x8 x10)).bind fun t216 => (if t216 = true then (impl_PathOk.l0 k x3 x8 x9 (wrap64 (x10 + 1))) else (some false))) else (none)) else (none)) else (some (decide ((x3.length : Int) ≤ 4)))
def impl_PathOk.f (k : Nat) (a0 : ByteArray) : Option (Bool) := (strings_Split.f a0 (⟨#[47]⟩ : ByteArray)).bind fun t212 => (impl_PathOk.l0 k t212 t212 (t212.length : Int) 0)
theorem impl_PathOk.calls (k : Nat) (a0 : ByteArray) (r : Bool) (w : World) (hG : GW w) (h : impl_PathOk.f k a0 = some r) :
  Calls Tryd.prog 18 #[.string a0] w fun e w' => e = .returned (.bool r) ∧ Below w.heap.size w w' := by
 have HG := Aside0.mk hG
 clear hG
 have HB := Aside0.mk (Below.refl w.heap.size w)
 have H : ((strings_Split.f a0 (⟨#[47]⟩ : ByteArray)).bind fun t212 => (impl_PathOk.l0 k t212 t212 (t212.length : Int) 0)) = some r := h
 clear h
 replace H := Option.bind_eq_some_iff.mp H
 obtain ⟨t212, A20, H⟩ := H
 replace H : (impl_PathOk.l0 k t212 t212 (t212.length : Int) 0) = some r := H
 have A2 := Aside0.mk A20
 clear A20
 have H' := Aside0.mk H
 clear H
 go_enter Tryd.func18, Tryd.ntmps18
 go_wp2_with (first | ((with_reducible refine gate_callee (f := 42) rfl ?_); refine goesL_ (some 7) rfl rfl Tryd.func42 (by kernel_rfl) rfl #[.string a0, .string (⟨#[47]⟩ : ByteArray)] rfl zM ?_; (with_reducible refine (strings_Split.calls a0 (⟨#[47]⟩ : ByteArray) t212 _ ?side1 A2.out).mono ?_); (case side1 => exact GW.below HG.out (zB)); rintro e w3 ⟨v213, rfl, ho0, hb⟩; refine ⟨_, rfl, ?_⟩; have n0_ := Aside0.mk (Kd.R_lower ho0 (below_size (zB))); have n1_ := Aside0.mk (below_step (zB) hb); clear HB; have HO214 := n0_; have HB := n1_; clear n0_ n1_; (try clear hb); (try clear hb2); (try clear hk); (try clear hi); (try clear ho0); obtain ⟨Ao4, co4, eo4⟩ := Kd.R_slice HO214.out; subst eo4))
 go_loopg [10] k (fun kq v10 w' => ∃ (x10_1 : Int), v10 = .int .i64 x10_1 ∧ Aside0 (impl_PathOk.l0 kq t212 t212 (t212.length : Int) x10_1 = some r) ∧ Aside0 (kq ≤ k) ∧ Aside0 (Kd.R Kd.string 9 w' w.heap.size (fun _ => True) (.slice Ao4 t212.length co4) t212) ∧ Aside0 (Kd.R Kd.string 9 w' w.heap.size (fun _ => True) (.slice Ao4 t212.length co4) t212) ∧ Aside0 (Below w.heap.size w w'))
 case atStart => exact ⟨(0), zS, H', ⟨Nat.le_refl _⟩, ⟨by (with_reducible repeat (first | apply Kd.R_alloc | apply Kd.R_drewN | apply Kd.R_drew)); exact HO214.out⟩, ⟨by (with_reducible repeat (first | apply Kd.R_alloc | apply Kd.R_drewN | apply Kd.R_drew)); exact HO214.out⟩, ⟨zB⟩⟩
 case round =>
  clear H'
  try clear c1
  try clear p2
  try clear c4
  obtain ⟨x10_1, rfl, HA, HK1, HO_3, HO_8, HB⟩ := hrel
  cases gk with
  | zero => exact absurd HA.out (by simp [impl_PathOk.l0])
  | succ k1 =>
   have H := HA.out
   clear HA
   simp only [impl_PathOk.l0] at H
   by_cases c5 : x10_1 < (t212.length : Int)
   ·rw [if_pos c5] at H
    have c5b0 : decide (x10_1 < (t212.length : Int)) = true := decide_eq_true c5
    clear c5
    by_cases c6 : 0 ≤ x10_1
    ·rw [if_pos c6] at H
     have c6b0 : decide (0 ≤ x10_1) = true := decide_eq_true c6
     clear c6
     by_cases c7 : x10_1 < (t212.length : Int)
     ·rw [if_pos c7] at H
      have c7b0 : decide (x10_1 < (t212.length : Int)) = true := decide_eq_true c7
      clear c7
      replace H := Option.bind_eq_some_iff.mp H
      obtain ⟨t216, A80, H⟩ := H
      replace H : (if t216 = true then (impl_PathOk.l0 k1 t212 t212 (t212.length : Int) (wrap64 (x10_1 + 1))) else (some false)) = some r := H
      have A8 := Aside0.mk A80
      clear A80
      by_cases c9 : t216 = true
      ·subst c9
       have H1 : (impl_PathOk.l0 k1 t212 t212 (t212.length : Int) (wrap64 (x10_1 + 1))) = some r := by rw [if_pos rfl] at H; exact H
       clear H
       have H := H1
       clear H1
       have H' := Aside0.mk H
       clear H
       have p215 : 0 ≤ (x10_1 : Int) := zD
       have q215 : x10_1 < (t212.length : Int) := zD
       obtain ⟨ad215, e215, hx215_0⟩ := Kd.at_string (Kd.R_reads' HO_8.out).2.2 x10_1 p215 q215
       cases e215
       replace p215 := eq_true p215
       replace q215 := eq_true q215
       go_wp2_with (first | ((with_reducible refine gate_callee (f := 45) rfl ?_); refine goesL_ (some 15) rfl rfl Tryd.func45 (by kernel_rfl) rfl #[.string (rdOf ByteArray.empty t212 x10_1)] rfl zM ?_; (with_reducible refine (impl_fileNameOk.calls k1 (rdOf ByteArray.empty t212 x10_1) true _ A8.out).mono ?_); rintro e w' ⟨rfl, ⟨nd, rfl⟩⟩; refine ⟨_, rfl, ?_⟩))
       go_roundg k1
       case measure => have := HK1.out; omega
       case rel => exact ⟨(wrap64 (x10_1 + 1)), zS, H', ⟨by have := HK1.out; omega⟩, ⟨by (with_reducible repeat (first | apply Kd.R_alloc | apply Kd.R_drewN | apply Kd.R_drew)); exact HO_3.out⟩, ⟨by (with_reducible repeat (first | apply Kd.R_alloc | apply Kd.R_drewN | apply Kd.R_drew)); exact HO_8.out⟩, ⟨zB⟩⟩
      ·replace c9 := Bool.eq_false_iff.mpr c9
       subst c9
       have H1 : (some false) = some r := by rw [if_neg (show ¬ (false = true) by decide)] at H; exact H
       clear H
       have H := H1
       clear H1
       obtain rfl := Option.some.inj H
       have p215 : 0 ≤ (x10_1 : Int) := zD
       have q215 : x10_1 < (t212.length : Int) := zD
       obtain ⟨ad215, e215, hx215_0⟩ := Kd.at_string (Kd.R_reads' HO_8.out).2.2 x10_1 p215 q215
       cases e215
       replace p215 := eq_true p215
       replace q215 := eq_true q215
       go_wp2_with (first | ((with_reducible refine gate_callee (f := 45) rfl ?_); refine goesL_ (some 15) rfl rfl Tryd.func45 (by kernel_rfl) rfl #[.string (rdOf ByteArray.empty t212 x10_1)] rfl zM ?_; (with_reducible refine (impl_fileNameOk.calls k1 (rdOf ByteArray.empty t212 x10_1) false _ A8.out).mono ?_); rintro e w' ⟨rfl, ⟨nd, rfl⟩⟩; refine ⟨_, rfl, ?_⟩))
       go_ret
       exact ⟨zE, zB⟩
     ·rw [if_neg c7] at H
      exact absurd H (by simp)
    ·rw [if_neg c6] at H
     exact absurd H (by simp)
   ·rw [if_neg c5] at H
    have c5b0 : decide (x10_1 < (t212.length : Int)) = false := decide_eq_false c5
    clear c5
    obtain rfl := Option.some.inj H
    go_wp2
    go_ret
    exact ⟨zE, zB⟩
/-! ### strings_HasPrefix: function 81 -/
def strings_HasPrefix.f (a0 a1 : ByteArray) : Option Bool := some (Lib.hasPrefix a0.data.toList a1.data.toList)
theorem strings_HasPrefix.calls (a0 a1 : ByteArray) (r : Bool) (w : World) (h : strings_HasPrefix.f a0 a1 = some r) :
  Calls Tryd.prog 81 #[.string a0, .string a1] w fun e w' => e = .returned (.bool r) ∧ Drawn0 w w' := by
 obtain rfl := Option.some.inj h
 refine (Tryd.strings_HasPrefix a0 a1 w).mono ?_
 rintro e w' ⟨rfl, rfl⟩
 exact ⟨rfl, Drawn0.refl _⟩
/-! ### impl_unitOf: function 66 -/
mutual
def impl_unitOf.j0 : Nat → ByteArray → Bool → Option (Int)
 | 0, _, _ => none
 | k + 1, x0, x17 => if x17 = true then (some 1) else (impl_unitOf.j1 k x0)
def impl_unitOf.j1 : Nat → ByteArray → Option (Int)
 | 0, _ => none
 | k + 1, x0 => if 0 < (x0.size : Int) then (if (bt x0 0) = 91 then (impl_unitOf.j2 k x0) else (some 0)) else (none)
def impl_unitOf.j2 : Nat → ByteArray → Option (Int)
 | 0, _ => none
 | k + 1, x0 => if 1 ≤ (x0.size : Int) then ((strings_HasPrefix.f (x0.extract 1 x0.size) (⟨#[33]⟩ : ByteArray)).bind fun t218 => (if t218 = true then (impl_unitOf.j3 k x0 (1 + 1)) else (impl_unitOf.j3 k x0 1))) else (none)
def impl_unitOf.j3 : Nat → ByteArray → Int → Option (Int)
 | 0, _, _ => none
 | k + 1, x0, x3 => impl_unitOf.l0 k x0 x3 x3
def impl_unitOf.l0 : Nat → ByteArray → Int → Int → Option (Int)
 | 0, _, _, _ => none
 | k + 1, x0, x3, x4 => if x3 < (x0.size : Int) then (if 0 ≤ x3 then ((impl_isSmall.f (bt x0 x3)).bind fun t219 => (if t219 = true then (impl_unitOf.l0 k x0 (wrap64 (x3 + 1)) x4) else ((impl_isFigure.f (bt x0 x3)).bind fun t220 => (if t220 = true then (impl_unitOf.l0 k x0 (wrap64 (x3 + 1)) x4) else ((impl_inRange.f (wrap64 (x3 - x4)) 1 5).bind fun t221 => (if t221 = true then (if x3 = (x0.size : Int) then (some 0) else (if (bt x0 x3) = 93 then (some (wrap64 (x3 + 1))) else (some 0))) else (some 0))))))) else (none)) else ((impl_inRange.f (wrap64 (x3 - x4)) 1 5).bind fun t222 => (if t222 = true then (if x3 = (x0.size : Int) then (some 0) else (if 0 ≤ x3 then (none) else (none))) else (some 0)))
end
def impl_unitOf.f (k : Nat) (a0 : ByteArray) : Option (Int) := if 0 < (a0.size : Int) then ((impl_isPathByte.f (bt a0 0)).bind fun t217 => (if t217 = true then (impl_unitOf.j0 k a0 true) else (if (bt a0 0) = 63 then (impl_unitOf.j0 k a0 true) else (impl_unitOf.j0 k a0 ((bt a0 0) == 42))))) else (none)
theorem impl_unitOf.calls (k : Nat) (a0 : ByteArray) (r : Int) (w : World) (h : impl_unitOf.f k a0 = some r) :
  Calls Tryd.prog 66 #[.string a0] w fun e w' => e = .returned (.int .i64 r) ∧ Drawn0 w w' := by
 have H : (if 0 < (a0.size : Int) then ((impl_isPathByte.f (bt a0 0)).bind fun t217 => (if t217 = true then (impl_unitOf.j0 k a0 true) else (if (bt a0 0) = 63 then (impl_unitOf.j0 k a0 true) else (impl_unitOf.j0 k a0 ((bt a0 0) == 42))))) else (none)) = some r := h
 clear h
 have HC2 := Aside0.mk H
 clear H
 go_enter Tryd.func66, Tryd.ntmps66
 go_upto_region 1 with (fail)
 go_cut [17] (fun v17 wc => ∃ (kq : Nat) (x17_1 : Bool), v17 = .bool x17_1 ∧ Aside0 (impl_unitOf.j0 kq a0 x17_1 = some r) ∧ Aside0 (kq ≤ k) ∧ Drawn0 w wc)
 case first =>
  have H := HC2.out
  clear HC2
  by_cases c3 : 0 < (a0.size : Int)
  ·rw [if_pos c3] at H
   have c3b0 : decide (0 < (a0.size : Int)) = true := decide_eq_true c3
   have c3b1 : decide (0 < a0.size) = true := decide_eq_true (by omega)
   clear c3
   (first | rw [c3b0] | (simp only [i64_w, i32_w]; rw [c3b0]) | skip)
   replace H := Option.bind_eq_some_iff.mp H
   obtain ⟨t217, A50, H⟩ := H
   replace H : (if t217 = true then (impl_unitOf.j0 k a0 true) else (if (bt a0 0) = 63 then (impl_unitOf.j0 k a0 true) else (impl_unitOf.j0 k a0 ((bt a0 0) == 42)))) = some r := H
   have A5 := Aside0.mk A50
   clear A50
   by_cases c6 : t217 = true
   ·subst c6
    have H1 : (impl_unitOf.j0 k a0 true) = some r := by rw [if_pos rfl] at H; exact H
    clear H
    have H := H1
    clear H1
    have H' := Aside0.mk H
    clear H
    have p4 : 0 ≤ (0 : Int) := (by omega)
    have q4 : 0 < a0.size := (by have : (0 : Int) < (a0.size : Int) := zD; omega)
    have hx4 : ∀ h : 0 < a0.size, ((a0[0]'h).toNat : Int) = bt a0 0 := bt_at a0 0
    clear p4
    have qi4 : (0 < (a0.size : Int)) = True := eq_true (zD)
    replace q4 := eq_true q4
    go_wp2_with (first | ((with_reducible refine gate_callee (f := 63) rfl ?_); refine goesL_ (some 7) rfl rfl Tryd.func63 (by kernel_rfl) rfl #[.int .u8 (bt a0 0)] rfl zM ?_; (with_reducible refine (impl_isPathByte.calls (bt a0 0) true _ A5.out).mono ?_); rintro e w' ⟨rfl, ⟨nd, rfl⟩⟩; refine ⟨_, rfl, ?_⟩))
    go_meet
    case rel => exact ⟨_, (true), zS, (by first | exact H' | (subst_vars; exact H')), ⟨by first | omega | exact Nat.le_refl _⟩, by repeat (first | exact Drawn0.refl _ | apply Drawn0.step)⟩
   ·replace c6 := Bool.eq_false_iff.mpr c6
    subst c6
    have H1 : (if (bt a0 0) = 63 then (impl_unitOf.j0 k a0 true) else (impl_unitOf.j0 k a0 ((bt a0 0) == 42))) = some r := by rw [if_neg (show ¬ (false = true) by decide)] at H; exact H
    clear H
    have H := H1
    clear H1
    by_cases c8 : (bt a0 0) = 63
    ·rw [if_pos c8] at H
     have c8b0 : ((bt a0 0) == 63) = true := beq_iff_eq.mpr c8
     have c8b1 : ((bt a0 0) != 63) = false := bne_eq_false_iff_eq.mpr c8
     clear c8
     have H' := Aside0.mk H
     clear H
     have p4 : 0 ≤ (0 : Int) := (by omega)
     have q4 : 0 < a0.size := (by have : (0 : Int) < (a0.size : Int) := zD; omega)
     have hx4 : ∀ h : 0 < a0.size, ((a0[0]'h).toNat : Int) = bt a0 0 := bt_at a0 0
     clear p4
     have qi4 : (0 < (a0.size : Int)) = True := eq_true (zD)
     replace q4 := eq_true q4
     go_wp2_with (first | ((with_reducible refine gate_callee (f := 63) rfl ?_); refine goesL_ (some 7) rfl rfl Tryd.func63 (by kernel_rfl) rfl #[.int .u8 (bt a0 0)] rfl zM ?_; (with_reducible refine (impl_isPathByte.calls (bt a0 0) false _ A5.out).mono ?_); rintro e w' ⟨rfl, ⟨nd, rfl⟩⟩; refine ⟨_, rfl, ?_⟩; have p7 : 0 ≤ (0 : Int) := (by omega); have q7 : 0 < a0.size := (by have : (0 : Int) < (a0.size : Int) := zD; omega); have hx7 : ∀ h : 0 < a0.size, ((a0[0]'h).toNat : Int) = bt a0 0 := bt_at a0 0; clear p7; have qi7 : (0 < (a0.size : Int)) = True := eq_true (zD); replace q7 := eq_true q7))
     go_meet
     case rel => exact ⟨_, (true), zS, (by first | exact H' | (subst_vars; exact H')), ⟨by first | omega | exact Nat.le_refl _⟩, by repeat (first | exact Drawn0.refl _ | apply Drawn0.step)⟩
    ·rw [if_neg c8] at H
     have c8b0 : ((bt a0 0) == 63) = false := beq_eq_false_iff_ne.mpr c8
     have c8b1 : ((bt a0 0) != 63) = true := bne_iff_ne.mpr c8
     have H' := Aside0.mk H
     clear H
     have p4 : 0 ≤ (0 : Int) := (by omega)
     have q4 : 0 < a0.size := (by have : (0 : Int) < (a0.size : Int) := zD; omega)
     have hx4 : ∀ h : 0 < a0.size, ((a0[0]'h).toNat : Int) = bt a0 0 := bt_at a0 0
     clear p4
     have qi4 : (0 < (a0.size : Int)) = True := eq_true (zD)
     replace q4 := eq_true q4
     go_wp2_with (first | ((with_reducible refine gate_callee (f := 63) rfl ?_); refine goesL_ (some 7) rfl rfl Tryd.func63 (by kernel_rfl) rfl #[.int .u8 (bt a0 0)] rfl zM ?_; (with_reducible refine (impl_isPathByte.calls (bt a0 0) false _ A5.out).mono ?_); rintro e w' ⟨rfl, ⟨nd, rfl⟩⟩; refine ⟨_, rfl, ?_⟩; have p7 : 0 ≤ (0 : Int) := (by omega); have q7 : 0 < a0.size := (by have : (0 : Int) < (a0.size : Int) := zD; omega); have hx7 : ∀ h : 0 < a0.size, ((a0[0]'h).toNat : Int) = bt a0 0 := bt_at a0 0; clear p7; have qi7 : (0 < (a0.size : Int)) = True := eq_true (zD); replace q7 := eq_true q7; have p9 : 0 ≤ (0 : Int) := (by omega); have q9 : 0 < a0.size := (by have : (0 : Int) < (a0.size : Int) := zD; omega); have hx9 : ∀ h : 0 < a0.size, ((a0[0]'h).toNat : Int) = bt a0 0 := bt_at a0 0; clear p9; have qi9 : (0 < (a0.size : Int)) = True := eq_true (zD); replace q9 := eq_true q9))
     go_meet
     case rel => exact ⟨_, (((bt a0 0) == 42)), zS, (by first | exact H' | (subst_vars; exact H')), ⟨by first | omega | exact Nat.le_refl _⟩, by repeat (first | exact Drawn0.refl _ | apply Drawn0.step)⟩
  ·rw [if_neg c3] at H
   exact absurd H (by simp)
 case rest =>
  clear HC2
  try clear p2
  try clear c3
  try clear c3b0
  try clear c3b1
  try clear p4
  try clear q4
  try clear hx4
  try clear qi4
  try clear c6
  try clear p7
  try clear q7
  try clear hx7
  try clear qi7
  try clear c8
  try clear c8b0
  try clear c8b1
  try clear p9
  try clear q9
  try clear hx9
  try clear qi9
  try clear p4
  try clear p7
  try clear p9
  try clear q4
  try clear q7
  try clear q9
  obtain ⟨kq, x17_1, rfl, HA, HJ1, ⟨mc1, rfl⟩⟩ := hcut
  cases kq with
  | zero => exact absurd HA.out (by simp [impl_unitOf.j0])
  | succ kj1 =>
   have H := HA.out
   clear HA
   simp only [impl_unitOf.j0] at H
   have HC10 := Aside0.mk H
   clear H
   go_upto_if 17 with (fail)
   go_cut [] (fun wc => ∃ (kq : Nat), Aside0 (impl_unitOf.j1 kq a0 = some r) ∧ Aside0 (kq ≤ kj1) ∧ Drawn0 w wc)
   case first =>
    have H := HC10.out
    clear HC10
    by_cases c11 : x17_1 = true
    ·subst c11
     have H1 : (some 1) = some r := by rw [if_pos rfl] at H; exact H
     clear H
     have H := H1
     clear H1
     obtain rfl := Option.some.inj H
     go_wp2
     go_ret
     exact ⟨by first | rfl | (simp; done) | (simp [*]; done) | (simp; rw [Bool.eq_iff_iff]; simp; done), by repeat (first | exact Drawn0.refl _ | apply Drawn0.step)⟩
    ·replace c11 := Bool.eq_false_iff.mpr c11
     subst c11
     have H1 : (impl_unitOf.j1 kj1 a0) = some r := by rw [if_neg (show ¬ (false = true) by decide)] at H; exact H
     clear H
     have H := H1
     clear H1
     have H' := Aside0.mk H
     clear H
     go_wp2
     go_meet
     case rel => exact ⟨_, (by first | exact H' | (subst_vars; exact H')), ⟨by have := HJ1.out; first | omega | exact Nat.le_refl _⟩, by repeat (first | exact Drawn0.refl _ | apply Drawn0.step)⟩
   case rest =>
    clear HC10
    try clear c1
    try clear p2
    try clear c3
    try clear c3b0
    try clear c3b1
    try clear p4
    try clear q4
    try clear hx4
    try clear qi4
    try clear c6
    try clear p7
    try clear q7
    try clear hx7
    try clear qi7
    try clear c8
    try clear c8b0
    try clear c8b1
    try clear p9
    try clear q9
    try clear hx9
    try clear qi9
    try clear c11
    try clear p2
    try clear p4
    try clear p7
    try clear p9
    try clear q4
    try clear q7
    try clear q9
    obtain ⟨kq, HA, HJ9, ⟨mc9, rfl⟩⟩ := hcut
    cases kq with
    | zero => exact absurd HA.out (by simp [impl_unitOf.j1])
    | succ kj9 =>
     have H := HA.out
     clear HA
     simp only [impl_unitOf.j1] at H
     by_cases c12 : 0 < (a0.size : Int)
     ·rw [if_pos c12] at H
      have c12b0 : decide (0 < (a0.size : Int)) = true := decide_eq_true c12
      have c12b1 : decide (0 < a0.size) = true := decide_eq_true (by omega)
      clear c12
      have HC14 := Aside0.mk H
      clear H
      have p13 : 0 ≤ (0 : Int) := (by omega)
      have q13 : 0 < a0.size := (by have : (0 : Int) < (a0.size : Int) := zD; omega)
      have hx13 : ∀ h : 0 < a0.size, ((a0[0]'h).toNat : Int) = bt a0 0 := bt_at a0 0
      clear p13
      have qi13 : (0 < (a0.size : Int)) = True := eq_true (zD)
      replace q13 := eq_true q13
      go_upto_if 20 with (fail)
      go_cut [] (fun wc => ∃ (kq : Nat), Aside0 (impl_unitOf.j2 kq a0 = some r) ∧ Aside0 (kq ≤ kj9) ∧ Drawn0 w wc)
      case first =>
       have H := HC14.out
       clear HC14
       by_cases c15 : (bt a0 0) = 91
       ·rw [if_pos c15] at H
        have c15b0 : ((bt a0 0) == 91) = true := beq_iff_eq.mpr c15
        have c15b1 : ((bt a0 0) != 91) = false := bne_eq_false_iff_eq.mpr c15
        clear c15
        (first | rw [c15b0] | (simp only [i64_w, i32_w]; rw [c15b0]) | skip)
        have H' := Aside0.mk H
        clear H
        go_wp2
        go_meet
        case rel => exact ⟨_, (by first | exact H' | (subst_vars; exact H')), ⟨by have := HJ1.out; have := HJ9.out; first | omega | exact Nat.le_refl _⟩, by repeat (first | exact Drawn0.refl _ | apply Drawn0.step)⟩
       ·rw [if_neg c15] at H
        have c15b0 : ((bt a0 0) == 91) = false := beq_eq_false_iff_ne.mpr c15
        have c15b1 : ((bt a0 0) != 91) = true := bne_iff_ne.mpr c15
        (first | rw [c15b0] | (simp only [i64_w, i32_w]; rw [c15b0]) | skip)
        obtain rfl := Option.some.inj H
        go_wp2
        go_ret
        exact ⟨by first | rfl | (simp; done) | (simp [*]; done) | (simp; rw [Bool.eq_iff_iff]; simp; done), by repeat (first | exact Drawn0.refl _ | apply Drawn0.step)⟩
      case rest =>
       clear HC14
       try clear c1
       try clear p1
       try clear q1
       try clear hx1
       try clear qi1
       try clear p2
       try clear c3
       try clear c3b0
       try clear c3b1
       try clear p4
       try clear q4
       try clear hx4
       try clear qi4
       try clear c6
       try clear p7
       try clear q7
       try clear hx7
       try clear qi7
       try clear c8
       try clear c8b0
       try clear c8b1
       try clear c9
       try clear p9
       try clear q9
       try clear hx9
       try clear qi9
       try clear c11
       try clear c12
       try clear c12b0
       try clear c12b1
       try clear p13
       try clear q13
       try clear hx13
       try clear qi13
       try clear c15
       try clear c15b0
       try clear c15b1
       try clear p13
       try clear p2
       try clear p4
       try clear p7
       try clear p9
       try clear q13
       try clear q4
       try clear q7
       try clear q9
       obtain ⟨kq, HA, HJ13, ⟨mc13, rfl⟩⟩ := hcut
       cases kq with
       | zero => exact absurd HA.out (by simp [impl_unitOf.j2])
       | succ kj13 =>
        have H := HA.out
        clear HA
        simp only [impl_unitOf.j2] at H
        by_cases c16 : 1 ≤ (a0.size : Int)
        ·rw [if_pos c16] at H
         have c16b0 := eq_true c16
         have c16b1 : decide (1 ≤ (a0.size : Int)) = true := decide_eq_true c16
         clear c16
         replace H := Option.bind_eq_some_iff.mp H
         obtain ⟨t218, A170, H⟩ := H
         replace H : (if t218 = true then (impl_unitOf.j3 kj13 a0 (1 + 1)) else (impl_unitOf.j3 kj13 a0 1)) = some r := H
         have A17 := Aside0.mk A170
         clear A170
         have HC18 := Aside0.mk H
         clear H
         go_upto_if 24 with (first | ((with_reducible refine gate_callee (f := 81) rfl ?_); refine goesL_ (some 24) rfl rfl Tryd.func81 (by kernel_rfl) rfl #[.string (a0.extract 1 a0.size), .string (⟨#[33]⟩ : ByteArray)] rfl zM ?_; (with_reducible refine (strings_HasPrefix.calls (a0.extract 1 a0.size) (⟨#[33]⟩ : ByteArray) t218 _ A17.out).mono ?_); rintro e w' ⟨rfl, ⟨nd, rfl⟩⟩; refine ⟨_, rfl, ?_⟩))
         (try simp only [Act.put, List.setIfInBounds_toArray, List.set_cons_zero, List.set_cons_succ])
         go_cut [3] (fun v3 wc => ∃ (kq : Nat) (x3_17 : Int), v3 = .int .i64 x3_17 ∧ Aside0 (impl_unitOf.j3 kq a0 x3_17 = some r) ∧ Aside0 (kq ≤ kj13) ∧ Drawn0 w wc)
         case first =>
          have H := HC18.out
          clear HC18
          by_cases c19 : t218 = true
          ·subst c19
           have H1 : (impl_unitOf.j3 kj13 a0 (1 + 1)) = some r := by rw [if_pos rfl] at H; exact H
           clear H
           have H := H1
           clear H1
           have H' := Aside0.mk H
           clear H
           go_wp2
           go_meet
           case rel => exact ⟨_, (1 + 1), zS, (by first | exact H' | (subst_vars; exact H')), ⟨by have := HJ1.out; have := HJ9.out; have := HJ13.out; first | omega | exact Nat.le_refl _⟩, by repeat (first | exact Drawn0.refl _ | apply Drawn0.step)⟩
          ·replace c19 := Bool.eq_false_iff.mpr c19
           subst c19
           have H1 : (impl_unitOf.j3 kj13 a0 1) = some r := by rw [if_neg (show ¬ (false = true) by decide)] at H; exact H
           clear H
           have H := H1
           clear H1
           have H' := Aside0.mk H
           clear H
           go_wp2
           go_meet
           case rel => exact ⟨_, (1), zS, (by first | exact H' | (subst_vars; exact H')), ⟨by have := HJ1.out; have := HJ9.out; have := HJ13.out; first | omega | exact Nat.le_refl _⟩, by repeat (first | exact Drawn0.refl _ | apply Drawn0.step)⟩
         case rest =>
          clear HC18
          try clear c1
          try clear p1
          try clear q1
          try clear hx1
          try clear qi1
          try clear p2
          try clear c3
          try clear c3b0
          try clear c3b1
          try clear p4
          try clear q4
          try clear hx4
          try clear qi4
          try clear c6
          try clear p7
          try clear q7
          try clear hx7
          try clear qi7
          try clear c8
          try clear c8b0
          try clear c8b1
          try clear c9
          try clear p9
          try clear q9
          try clear hx9
          try clear qi9
          try clear c11
          try clear c12
          try clear c12b0
          try clear c12b1
          try clear c13
          try clear p13
          try clear q13
          try clear hx13
          try clear qi13
          try clear c15
          try clear c15b0
          try clear c15b1
          try clear c16
          try clear c16b0
          try clear c16b1
          try clear c19
          try clear p1
          try clear p13
          try clear p2
          try clear p4
          try clear p7
          try clear p9
          try clear q1
          try clear q13
          try clear q4
          try clear q7
          try clear q9
          obtain ⟨kq, x3_17, rfl, HA, HJ17, ⟨mc17, rfl⟩⟩ := hcut
          cases kq with
          | zero => exact absurd HA.out (by simp [impl_unitOf.j3])
          | succ kj17 =>
           have H := HA.out
           clear HA
           simp only [impl_unitOf.j3] at H
           have H' := Aside0.mk H
           clear H
           go_wp2
           go_loopg [3] kj17 (fun kq v3 w' => ∃ (x3_5 : Int), v3 = .int .i64 x3_5 ∧ Aside0 (impl_unitOf.l0 kq a0 x3_5 x3_17 = some r) ∧ Aside0 (kq ≤ kj17) ∧ Drawn0 w w')
           case atStart => exact ⟨(x3_17), zS, H', ⟨Nat.le_refl _⟩, by repeat (first | exact Drawn0.refl _ | apply Drawn0.step)⟩
           case round =>
            clear H'
            try clear c1
            try clear p1
            try clear q1
            try clear hx1
            try clear qi1
            try clear p2
            try clear c3
            try clear c3b0
            try clear c3b1
            try clear p4
            try clear q4
            try clear hx4
            try clear qi4
            try clear c6
            try clear p7
            try clear q7
            try clear hx7
            try clear qi7
            try clear c8
            try clear c8b0
            try clear c8b1
            try clear c9
            try clear p9
            try clear q9
            try clear hx9
            try clear qi9
            try clear c11
            try clear c12
            try clear c12b0
            try clear c12b1
            try clear c13
            try clear p13
            try clear q13
            try clear hx13
            try clear qi13
            try clear c15
            try clear c15b0
            try clear c15b1
            try clear c16
            try clear c16b0
            try clear c16b1
            try clear c17
            try clear c19
            try clear p1
            try clear p13
            try clear p2
            try clear p4
            try clear p7
            try clear p9
            try clear q1
            try clear q13
            try clear q4
            try clear q7
            try clear q9
            obtain ⟨x3_5, rfl, HA, HK5, ⟨m5, rfl⟩⟩ := hrel
            cases gk with
            | zero => exact absurd HA.out (by simp [impl_unitOf.l0])
            | succ k5 =>
             have H := HA.out
             clear HA
             simp only [impl_unitOf.l0] at H
             by_cases c20 : x3_5 < (a0.size : Int)
             ·rw [if_pos c20] at H
              have c20b0 : decide (x3_5 < (a0.size : Int)) = true := decide_eq_true c20
              clear c20
              by_cases c21 : 0 ≤ x3_5
              ·rw [if_pos c21] at H
               have c21b0 : decide (0 ≤ x3_5) = true := decide_eq_true c21
               clear c21
               replace H := Option.bind_eq_some_iff.mp H
               obtain ⟨t219, A230, H⟩ := H
               replace H : (if t219 = true then (impl_unitOf.l0 k5 a0 (wrap64 (x3_5 + 1)) x3_17) else ((impl_isFigure.f (bt a0 x3_5)).bind fun t220 => (if t220 = true then (impl_unitOf.l0 k5 a0 (wrap64 (x3_5 + 1)) x3_17) else ((impl_inRange.f (wrap64 (x3_5 - x3_17)) 1 5).bind fun t221 => (if t221 = true then (if x3_5 = (a0.size : Int) then (some 0) else (if (bt a0 x3_5) = 93 then (some (wrap64 (x3_5 + 1))) else (some 0))) else (some 0)))))) = some r := H
               have A23 := Aside0.mk A230
               clear A230
               by_cases c24 : t219 = true
               ·subst c24
                have H1 : (impl_unitOf.l0 k5 a0 (wrap64 (x3_5 + 1)) x3_17) = some r := by rw [if_pos rfl] at H; exact H
                clear H
                have H := H1
                clear H1
                have H' := Aside0.mk H
                clear H
                have p22 : 0 ≤ (x3_5 : Int) := zD
                have q22 : x3_5 < (a0.size : Int) := zD
                have hx22 := bt_at a0 x3_5
                replace p22 := eq_true p22
                replace q22 := eq_true q22
                go_wp2_with (first | (go_at_call 79; (with_reducible refine (impl_isSmall.calls (bt a0 x3_5) true _ A23.out).mono ?_); rintro e w' ⟨rfl, ⟨nd, rfl⟩⟩))
                go_roundg k5
                case measure => have := HJ1.out; have := HJ9.out; have := HJ13.out; have := HJ17.out; have := HK5.out; omega
                case rel => exact ⟨(wrap64 (x3_5 + 1)), zS, H', ⟨by have := HJ1.out; have := HJ9.out; have := HJ13.out; have := HJ17.out; have := HK5.out; omega⟩, by repeat (first | exact Drawn0.refl _ | apply Drawn0.step)⟩
               ·replace c24 := Bool.eq_false_iff.mpr c24
                subst c24
                have H1 : ((impl_isFigure.f (bt a0 x3_5)).bind fun t220 => (if t220 = true then (impl_unitOf.l0 k5 a0 (wrap64 (x3_5 + 1)) x3_17) else ((impl_inRange.f (wrap64 (x3_5 - x3_17)) 1 5).bind fun t221 => (if t221 = true then (if x3_5 = (a0.size : Int) then (some 0) else (if (bt a0 x3_5) = 93 then (some (wrap64 (x3_5 + 1))) else (some 0))) else (some 0))))) = some r := by rw [if_neg (show ¬ (false = true) by decide)] at H; exact H
                clear H
                have H := H1
                clear H1
                replace H := Option.bind_eq_some_iff.mp H
                obtain ⟨t220, A260, H⟩ := H
                replace H : (if t220 = true then (impl_unitOf.l0 k5 a0 (wrap64 (x3_5 + 1)) x3_17) else ((impl_inRange.f (wrap64 (x3_5 - x3_17)) 1 5).bind fun t221 => (if t221 = true then (if x3_5 = (a0.size : Int) then (some 0) else (if (bt a0 x3_5) = 93 then (some (wrap64 (x3_5 + 1))) else (some 0))) else (some 0)))) = some r := H
                have A26 := Aside0.mk A260
                clear A260
                by_cases c27 : t220 = true
                ·subst c27
                 have H1 : (impl_unitOf.l0 k5 a0 (wrap64 (x3_5 + 1)) x3_17) = some r := by rw [if_pos rfl] at H; exact H
                 clear H
                 have H := H1
                 clear H1
                 have H' := Aside0.mk H
                 clear H
                 have p22 : 0 ≤ (x3_5 : Int) := zD
                 have q22 : x3_5 < (a0.size : Int) := zD
                 have hx22 := bt_at a0 x3_5
                 replace p22 := eq_true p22
                 replace q22 := eq_true q22
                 go_wp2_with (first | (go_at_call 79; (with_reducible refine (impl_isSmall.calls (bt a0 x3_5) false _ A23.out).mono ?_); rintro e w' ⟨rfl, ⟨nd, rfl⟩⟩; have p25 : 0 ≤ (x3_5 : Int) := zD; have q25 : x3_5 < (a0.size : Int) := zD; have hx25 := bt_at a0 x3_5; replace p25 := eq_true p25; replace q25 := eq_true q25) | (go_at_call 80; (with_reducible refine (impl_isFigure.calls (bt a0 x3_5) true _ A26.out).mono ?_); rintro e w' ⟨rfl, ⟨nd, rfl⟩⟩))
                 go_roundg k5
                 case measure => have := HJ1.out; have := HJ9.out; have := HJ13.out; have := HJ17.out; have := HK5.out; omega
                 case rel => exact ⟨(wrap64 (x3_5 + 1)), zS, H', ⟨by have := HJ1.out; have := HJ9.out; have := HJ13.out; have := HJ17.out; have := HK5.out; omega⟩, by repeat (first | exact Drawn0.refl _ | apply Drawn0.step)⟩
                ·replace c27 := Bool.eq_false_iff.mpr c27
                 subst c27
                 have H1 : ((impl_inRange.f (wrap64 (x3_5 - x3_17)) 1 5).bind fun t221 => (if t221 = true then (if x3_5 = (a0.size : Int) then (some 0) else (if (bt a0 x3_5) = 93 then (some (wrap64 (x3_5 + 1))) else (some 0))) else (some 0))) = some r := by rw [if_neg (show ¬ (false = true) by decide)] at H; exact H
                 clear H
                 have H := H1
                 clear H1
                 replace H := Option.bind_eq_some_iff.mp H
                 obtain ⟨t221, A280, H⟩ := H
                 replace H : (if t221 = true then (if x3_5 = (a0.size : Int) then (some 0) else (if (bt a0 x3_5) = 93 then (some (wrap64 (x3_5 + 1))) else (some 0))) else (some 0)) = some r := H
                 have A28 := Aside0.mk A280
                 clear A280
                 by_cases c29 : t221 = true
                 ·subst c29
                  have H1 : (if x3_5 = (a0.size : Int) then (some 0) else (if (bt a0 x3_5) = 93 then (some (wrap64 (x3_5 + 1))) else (some 0))) = some r := by rw [if_pos rfl] at H; exact H
                  clear H
                  have H := H1
                  clear H1
                  by_cases c30 : x3_5 = (a0.size : Int)
                  ·rw [if_pos c30] at H
                   have c30b0 : (x3_5 == (a0.size : Int)) = true := beq_iff_eq.mpr c30
                   have c30b1 : (x3_5 != (a0.size : Int)) = false := bne_eq_false_iff_eq.mpr c30
                   clear c30
                   obtain rfl := Option.some.inj H
                   have p22 : 0 ≤ (x3_5 : Int) := zD
                   have q22 : x3_5 < (a0.size : Int) := zD
                   have hx22 := bt_at a0 x3_5
                   replace p22 := eq_true p22
                   replace q22 := eq_true q22
                   go_wp2_with (first | (go_at_call 79; (with_reducible refine (impl_isSmall.calls (bt a0 x3_5) false _ A23.out).mono ?_); rintro e w' ⟨rfl, ⟨nd, rfl⟩⟩; have p25 : 0 ≤ (x3_5 : Int) := zD; have q25 : x3_5 < (a0.size : Int) := zD; have hx25 := bt_at a0 x3_5; replace p25 := eq_true p25; replace q25 := eq_true q25) | (go_at_call 80; (with_reducible refine (impl_isFigure.calls (bt a0 x3_5) false _ A26.out).mono ?_); rintro e w' ⟨rfl, ⟨nd, rfl⟩⟩) | ((with_reducible refine gate_callee (f := 64) rfl ?_); refine goesL_ (some 49) rfl rfl Tryd.func64 (by kernel_rfl) rfl #[.int .i64 (wrap64 (x3_5 - x3_17)), .int .i64 1, .int .i64 5] rfl zM ?_; (with_reducible refine (impl_inRange.calls (wrap64 (x3_5 - x3_17)) 1 5 true _ A28.out).mono ?_); rintro e w' ⟨rfl, ⟨nd, rfl⟩⟩; refine ⟨_, rfl, ?_⟩))
                   go_ret
                   exact ⟨by first | rfl | (simp; done) | (simp [*]; done) | (simp; rw [Bool.eq_iff_iff]; simp; done), by repeat (first | exact Drawn0.refl _ | apply Drawn0.step)⟩
                  ·rw [if_neg c30] at H
                   have c30b0 : (x3_5 == (a0.size : Int)) = false := beq_eq_false_iff_ne.mpr c30
                   have c30b1 : (x3_5 != (a0.size : Int)) = true := bne_iff_ne.mpr c30
                   by_cases c32 : (bt a0 x3_5) = 93
                   ·rw [if_pos c32] at H
                    have c32b0 : ((bt a0 x3_5) == 93) = true := beq_iff_eq.mpr c32
                    have c32b1 : ((bt a0 x3_5) != 93) = false := bne_eq_false_iff_eq.mpr c32
                    clear c32
                    obtain rfl := Option.some.inj H
                    have p22 : 0 ≤ (x3_5 : Int) := zD
                    have q22 : x3_5 < (a0.size : Int) := zD
                    have hx22 := bt_at a0 x3_5
                    replace p22 := eq_true p22
                    replace q22 := eq_true q22
                    go_wp2_with (first | (go_at_call 79; (with_reducible refine (impl_isSmall.calls (bt a0 x3_5) false _ A23.out).mono ?_); rintro e w' ⟨rfl, ⟨nd, rfl⟩⟩; have p25 : 0 ≤ (x3_5 : Int) := zD; have q25 : x3_5 < (a0.size : Int) := zD; have hx25 := bt_at a0 x3_5; replace p25 := eq_true p25; replace q25 := eq_true q25) | (go_at_call 80; (with_reducible refine (impl_isFigure.calls (bt a0 x3_5) false _ A26.out).mono ?_); rintro e w' ⟨rfl, ⟨nd, rfl⟩⟩) | ((with_reducible refine gate_callee (f := 64) rfl ?_); refine goesL_ (some 49) rfl rfl Tryd.func64 (by kernel_rfl) rfl #[.int .i64 (wrap64 (x3_5 - x3_17)), .int .i64 1, .int .i64 5] rfl zM ?_; (with_reducible refine (impl_inRange.calls (wrap64 (x3_5 - x3_17)) 1 5 true _ A28.out).mono ?_); rintro e w' ⟨rfl, ⟨nd, rfl⟩⟩; refine ⟨_, rfl, ?_⟩; have p31 : 0 ≤ (x3_5 : Int) := zD; have q31 : x3_5 < (a0.size : Int) := zD; have hx31 := bt_at a0 x3_5; replace p31 := eq_true p31; replace q31 := eq_true q31))
                    go_ret
                    exact ⟨by first | rfl | (simp; done) | (simp [*]; done) | (simp; rw [Bool.eq_iff_iff]; simp; done), by repeat (first | exact Drawn0.refl _ | apply Drawn0.step)⟩
                   ·rw [if_neg c32] at H
                    have c32b0 : ((bt a0 x3_5) == 93) = false := beq_eq_false_iff_ne.mpr c32
                    have c32b1 : ((bt a0 x3_5) != 93) = true := bne_iff_ne.mpr c32
                    obtain rfl := Option.some.inj H
                    have p22 : 0 ≤ (x3_5 : Int) := zD
                    have q22 : x3_5 < (a0.size : Int) := zD
                    have hx22 := bt_at a0 x3_5
                    replace p22 := eq_true p22
                    replace q22 := eq_true q22
                    go_wp2_with (first | (go_at_call 79; (with_reducible refine (impl_isSmall.calls (bt a0 x3_5) false _ A23.out).mono ?_); rintro e w' ⟨rfl, ⟨nd, rfl⟩⟩; have p25 : 0 ≤ (x3_5 : Int) := zD; have q25 : x3_5 < (a0.size : Int) := zD; have hx25 := bt_at a0 x3_5; replace p25 := eq_true p25; replace q25 := eq_true q25) | (go_at_call 80; (with_reducible refine (impl_isFigure.calls (bt a0 x3_5) false _ A26.out).mono ?_); rintro e w' ⟨rfl, ⟨nd, rfl⟩⟩) | ((with_reducible refine gate_callee (f := 64) rfl ?_); refine goesL_ (some 49) rfl rfl Tryd.func64 (by kernel_rfl) rfl #[.int .i64 (wrap64 (x3_5 - x3_17)), .int .i64 1, .int .i64 5] rfl zM ?_; (with_reducible refine (impl_inRange.calls (wrap64 (x3_5 - x3_17)) 1 5 true _ A28.out).mono ?_); rintro e w' ⟨rfl, ⟨nd, rfl⟩⟩; refine ⟨_, rfl, ?_⟩; have p31 : 0 ≤ (x3_5 : Int) := zD; have q31 : x3_5 < (a0.size : Int) := zD; have hx31 := bt_at a0 x3_5; replace p31 := eq_true p31; replace q31 := eq_true q31))
                    go_ret
                    exact ⟨by first | rfl | (simp; done) | (simp [*]; done) | (simp; rw [Bool.eq_iff_iff]; simp; done), by repeat (first | exact Drawn0.refl _ | apply Drawn0.step)⟩
                 ·replace c29 := Bool.eq_false_iff.mpr c29
                  subst c29
                  have H1 : (some 0) = some r := by rw [if_neg (show ¬ (false = true) by decide)] at H; exact H
                  clear H
                  have H := H1
                  clear H1
                  obtain rfl := Option.some.inj H
                  have p22 : 0 ≤ (x3_5 : Int) := zD
                  have q22 : x3_5 < (a0.size : Int) := zD
                  have hx22 := bt_at a0 x3_5
                  replace p22 := eq_true p22
                  replace q22 := eq_true q22
                  go_wp2_with (first | (go_at_call 79; (with_reducible refine (impl_isSmall.calls (bt a0 x3_5) false _ A23.out).mono ?_); rintro e w' ⟨rfl, ⟨nd, rfl⟩⟩; have p25 : 0 ≤ (x3_5 : Int) := zD; have q25 : x3_5 < (a0.size : Int) := zD; have hx25 := bt_at a0 x3_5; replace p25 := eq_true p25; replace q25 := eq_true q25) | (go_at_call 80; (with_reducible refine (impl_isFigure.calls (bt a0 x3_5) false _ A26.out).mono ?_); rintro e w' ⟨rfl, ⟨nd, rfl⟩⟩) | ((with_reducible refine gate_callee (f := 64) rfl ?_); refine goesL_ (some 49) rfl rfl Tryd.func64 (by kernel_rfl) rfl #[.int .i64 (wrap64 (x3_5 - x3_17)), .int .i64 1, .int .i64 5] rfl zM ?_; (with_reducible refine (impl_inRange.calls (wrap64 (x3_5 - x3_17)) 1 5 false _ A28.out).mono ?_); rintro e w' ⟨rfl, ⟨nd, rfl⟩⟩; refine ⟨_, rfl, ?_⟩))
                  go_ret
                  exact ⟨by first | rfl | (simp; done) | (simp [*]; done) | (simp; rw [Bool.eq_iff_iff]; simp; done), by repeat (first | exact Drawn0.refl _ | apply Drawn0.step)⟩
              ·rw [if_neg c21] at H
               exact absurd H (by simp)
             ·rw [if_neg c20] at H
              have c20b0 : decide (x3_5 < (a0.size : Int)) = false := decide_eq_false c20
              clear c20
              replace H := Option.bind_eq_some_iff.mp H
              obtain ⟨t222, A330, H⟩ := H
              replace H : (if t222 = true then (if x3_5 = (a0.size : Int) then (some 0) else (if 0 ≤ x3_5 then (none) else (none))) else (some 0)) = some r := H
              have A33 := Aside0.mk A330
              clear A330
              by_cases c34 : t222 = true
              ·subst c34
               have H1 : (if x3_5 = (a0.size : Int) then (some 0) else (if 0 ≤ x3_5 then (none) else (none))) = some r := by rw [if_pos rfl] at H; exact H
               clear H
               have H := H1
               clear H1
               by_cases c35 : x3_5 = (a0.size : Int)
               ·rw [if_pos c35] at H
                have c35b0 : (x3_5 == (a0.size : Int)) = true := beq_iff_eq.mpr c35
                have c35b1 : (x3_5 != (a0.size : Int)) = false := bne_eq_false_iff_eq.mpr c35
                clear c35
                obtain rfl := Option.some.inj H
                go_wp2_with (first | ((with_reducible refine gate_callee (f := 64) rfl ?_); refine goesL_ (some 49) rfl rfl Tryd.func64 (by kernel_rfl) rfl #[.int .i64 (wrap64 (x3_5 - x3_17)), .int .i64 1, .int .i64 5] rfl zM ?_; (with_reducible refine (impl_inRange.calls (wrap64 (x3_5 - x3_17)) 1 5 true _ A33.out).mono ?_); rintro e w' ⟨rfl, ⟨nd, rfl⟩⟩; refine ⟨_, rfl, ?_⟩))
                go_ret
                exact ⟨by first | rfl | (simp; done) | (simp [*]; done) | (simp; rw [Bool.eq_iff_iff]; simp; done), by repeat (first | exact Drawn0.refl _ | apply Drawn0.step)⟩
               ·rw [if_neg c35] at H
                have c35b0 : (x3_5 == (a0.size : Int)) = false := beq_eq_false_iff_ne.mpr c35
                have c35b1 : (x3_5 != (a0.size : Int)) = true := bne_iff_ne.mpr c35
                by_cases c36 : 0 ≤ x3_5
                ·rw [if_pos c36] at H
                 exact absurd H (by simp)
                ·rw [if_neg c36] at H
                 exact absurd H (by simp)
              ·replace c34 := Bool.eq_false_iff.mpr c34
               subst c34
               have H1 : (some 0) = some r := by rw [if_neg (show ¬ (false = true) by decide)] at H; exact H
               clear H
               have H := H1
               clear H1
               obtain rfl := Option.some.inj H
               go_wp2_with (first | ((with_reducible refine gate_callee (f := 64) rfl ?_); refine goesL_ (some 49) rfl rfl Tryd.func64 (by kernel_rfl) rfl #[.int .i64 (wrap64 (x3_5 - x3_17)), .int .i64 1, .int .i64 5] rfl zM ?_; (with_reducible refine (impl_inRange.calls (wrap64 (x3_5 - x3_17)) 1 5 false _ A33.out).mono ?_); rintro e w' ⟨rfl, ⟨nd, rfl⟩⟩; refine ⟨_, rfl, ?_⟩))
               go_ret
               exact ⟨by first | rfl | (simp; done) | (simp [*]; done) | (simp; rw [Bool.eq_iff_iff]; simp; done), by repeat (first | exact Drawn0.refl _ | apply Drawn0.step)⟩
        ·rw [if_neg c16] at H
         exact absurd H (by simp)
     ·rw [if_neg c12] at H
      exact absurd H (by simp)
end Go.Proofs.YtpmooegakomnbaaDoor.PGH
