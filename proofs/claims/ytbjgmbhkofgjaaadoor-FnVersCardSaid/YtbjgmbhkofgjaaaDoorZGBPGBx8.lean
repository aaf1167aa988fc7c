/- The walks of the functions that these laws reach, and what each comes to: printed by this session's program. -/
import Derived.Deep.CutBlock
import Derived.Test.YtbjgmbhkofgjaaaDoorZGBPGBx0
import Derived.Test.YtbjgmbhkofgjaaaDoorZGBPGBx4
import Derived.Test.YtbjgmbhkofgjaaaDoorZGBPGBx5
import Derived.Test.YtbjgmbhkofgjaaaDoorZGBPGBx7
import Derived.Test.YtbjgmbhkofgjaaaDoorZGBSays
namespace Go.Proofs.YtbjgmbhkofgjaaaDoor.PGB
open Go.RowKit Go.Proofs.YtbjgmbhkofgjaaaDoorW.PrintWords Go.Proofs.YtbjgmbhkofgjaaaDoorW.PrintLast Go.Proofs.YtbjgmbhkofgjaaaDoorW.PrintMore
attribute [local go_sem high] Go.Proofs.YtbjgmbhkofgjaaaDoor.Mine.str_gtr Go.Proofs.YtbjgmbhkofgjaaaDoor.Mine.str_leq Go.Proofs.YtbjgmbhkofgjaaaDoor.Mine.str_geq
attribute [local go_sem] max2_int min2_int max_two min_two max_three min_three max_four min_four   -- for this text's walks alone
set_option linter.unusedVariables false
set_option maxHeartbeats 8000000
set_option maxRecDepth 100000
set_option linter.unusedSimpArgs false
/-! ### spec_ParseNum: function 38 -/
mutual
def spec_ParseNum.l0 : Nat → ByteArray → Int → Int → Int → Option (Int × Bool)
 | 0, _, _, _, _ => none
 | k + 1, x0, x1, x6, x7 => if x7 < (x0.size : Int) then (spec_ParseNum.j1 k x0 x1 x6 x7 (decide (x7 < 8))) else (spec_ParseNum.j1 k x0 x1 x6 x7 false)
def spec_ParseNum.j1 : Nat → ByteArray → Int → Int → Int → Bool → Option (Int × Bool)
 | 0, _, _, _, _, _ => none
 | k + 1, x0, x1, x6, x7, x15 => if x15 = true then (if 0 ≤ x7 then (if x7 < (x0.size : Int) then ((spec_l1Digit.f (bt x0 x7)).bind fun t312 => (if t312 = true then (spec_ParseNum.l0 k x0 x1 (wrap64 ((wrap64 (x6 * 10)) + (((bt x0 x7) - 48) % 256))) (wrap64 (x7 + 1))) else (some (0, false)))) else (none)) else (none)) else ((spec_l1In.f (x0.size : Int) 1 7).bind fun t313 => (if t313 = true then (if (x0.size : Int) > 1 then (if 0 < (x0.size : Int) then (if (bt x0 0) = 48 then (some (0, false)) else (if x6 > x1 then (some (0, false)) else (some (x6, true)))) else (none)) else (if x6 > x1 then (some (0, false)) else (some (x6, true)))) else (some (0, false))))
end
def spec_ParseNum.f (k : Nat) (a0 : ByteArray) (a1 : Int) : Option (Int × Bool) := spec_ParseNum.l0 k a0 a1 0 0
theorem spec_ParseNum.calls (k : Nat) (a0 : ByteArray) (a1 : Int) (r1 : Int) (r2 : Bool) (w : World) (h : spec_ParseNum.f k a0 a1 = some (r1, r2)) :
  Calls Tryd.prog 38 #[.string a0, .int .i64 a1] w fun e w' => e = .returned (.tuple #[.int .i64 r1, .bool r2]) ∧ Drawn0 w w' := by
 have H : (spec_ParseNum.l0 k a0 a1 0 0) = some (r1, r2) := h
 clear h
 have H' := Aside0.mk H
 clear H
 go_enter Tryd.func38, Tryd.ntmps38
 go_wp2
 go_loopg [6, 7] k (fun kq v6 v7 w' => ∃ (x6_1 : Int) (x7_1 : Int), v6 = .int .i64 x6_1 ∧ v7 = .int .i64 x7_1 ∧ Aside0 (spec_ParseNum.l0 kq a0 a1 x6_1 x7_1 = some (r1, r2)) ∧ Aside0 (kq ≤ k) ∧ Drawn0 w w')
 case atStart => exact ⟨(0), (0), zS, zS, H', ⟨Nat.le_refl _⟩, by repeat (first | exact Drawn0.refl _ | apply Drawn0.step)⟩
 case round =>
  clear H'
  try clear p2
  obtain ⟨x6_1, x7_1, rfl, rfl, HA, HK1, ⟨m1, rfl⟩⟩ := hrel
  cases gk with
  | zero => exact absurd HA.out (by simp [spec_ParseNum.l0])
  | succ k1 =>
   have H := HA.out
   clear HA
   simp only [spec_ParseNum.l0] at H
   have HC3 := Aside0.mk H
   clear H
   go_upto_region 3 with (fail)
   go_cut [15] (fun v15 wc => ∃ (kq : Nat) (x15_2 : Bool), v15 = .bool x15_2 ∧ Aside0 (spec_ParseNum.j1 kq a0 a1 x6_1 x7_1 x15_2 = some (r1, r2)) ∧ Aside0 (kq ≤ k1) ∧ Drawn0 w wc)
   case first =>
    have H := HC3.out
    clear HC3
    by_cases c4 : x7_1 < (a0.size : Int)
    ·rw [if_pos c4] at H
     have c4b0 := decide_eq_true c4
     clear c4
     (first | rw [c4b0] | (simp only [i64_w, i32_w]; rw [c4b0]) | skip)
     have H' := Aside0.mk H
     clear H
     go_wp2
     go_meet
     case rel => exact ⟨_, (decide (x7_1 < 8)), zS, (by first | exact H' | (subst_vars; exact H')), ⟨by have := HK1.out; first | omega | exact Nat.le_refl _⟩, by repeat (first | exact Drawn0.refl _ | apply Drawn0.step)⟩
    ·rw [if_neg c4] at H
     have c4b0 := decide_eq_false c4
     clear c4
     (first | rw [c4b0] | (simp only [i64_w, i32_w]; rw [c4b0]) | skip)
     have H' := Aside0.mk H
     clear H
     go_wp2
     go_meet
     case rel => exact ⟨_, (false), zS, (by first | exact H' | (subst_vars; exact H')), ⟨by have := HK1.out; first | omega | exact Nat.le_refl _⟩, by repeat (first | exact Drawn0.refl _ | apply Drawn0.step)⟩
   case rest =>
    clear HC3
    try clear p2
    try clear c3
    try clear c4
    try clear c4b0
    try clear p2
    obtain ⟨kq, x15_2, rfl, HA, HJ2, ⟨mc2, rfl⟩⟩ := hcut
    cases kq with
    | zero => exact absurd HA.out (by simp [spec_ParseNum.j1])
    | succ kj2 =>
     have H := HA.out
     clear HA
     simp only [spec_ParseNum.j1] at H
     by_cases c5 : x15_2 = true
     ·subst c5
      rw [if_pos rfl] at H
      by_cases c6 : 0 ≤ x7_1
      ·rw [if_pos c6] at H
       have c6b0 := decide_eq_true c6
       clear c6
       by_cases c7 : x7_1 < (a0.size : Int)
       ·rw [if_pos c7] at H
        have c7b0 := decide_eq_true c7
        clear c7
        replace H := Option.bind_eq_some_iff.mp H
        obtain ⟨t312, A90, H⟩ := H
        try dsimp only at H
        have A9 := Aside0.mk A90
        clear A90
        by_cases c10 : t312 = true
        ·subst c10
         rw [if_pos rfl] at H
         have H' := Aside0.mk H
         clear H
         have p8 : 0 ≤ (x7_1 : Int) := zD
         have q8 : x7_1 < (a0.size : Int) := zD
         have hx8 := bt_at a0 x7_1
         replace p8 := eq_true p8
         replace q8 := eq_true q8
         go_wp2_with (first | ((with_reducible refine zq 67 ?_); refine zg (some 21) Tryd.func67 #[.int .u8 (bt a0 x7_1)] ?_; (with_reducible refine (spec_l1Digit.calls (bt a0 x7_1) true _ A9.out).mono ?_); rintro e w' ⟨rfl, ⟨nd, rfl⟩⟩; refine ⟨_, rfl, ?_⟩; have p11 : 0 ≤ (x7_1 : Int) := zD; have q11 : x7_1 < (a0.size : Int) := zD; have hx11 := bt_at a0 x7_1; replace p11 := eq_true p11; replace q11 := eq_true q11))
         go_roundg kj2
         case measure => have := HK1.out; have := HJ2.out; omega
         case rel => exact ⟨(wrap64 ((wrap64 (x6_1 * 10)) + (((bt a0 x7_1) - 48) % 256))), (wrap64 (x7_1 + 1)), zS, zS, H', ⟨by have := HK1.out; have := HJ2.out; omega⟩, by repeat (first | exact Drawn0.refl _ | apply Drawn0.step)⟩
        ·replace c10 := Bool.eq_false_iff.mpr c10
         subst c10
         rw [if_neg zFT] at H
         simp only [Option.some.injEq, Prod.mk.injEq] at H
         obtain ⟨rfl, rfl⟩ := H
         have p8 : 0 ≤ (x7_1 : Int) := zD
         have q8 : x7_1 < (a0.size : Int) := zD
         have hx8 := bt_at a0 x7_1
         replace p8 := eq_true p8
         replace q8 := eq_true q8
         go_wp2_with (first | ((with_reducible refine zq 67 ?_); refine zg (some 21) Tryd.func67 #[.int .u8 (bt a0 x7_1)] ?_; (with_reducible refine (spec_l1Digit.calls (bt a0 x7_1) false _ A9.out).mono ?_); rintro e w' ⟨rfl, ⟨nd, rfl⟩⟩; refine ⟨_, rfl, ?_⟩))
         go_ret2
         exact ⟨by first | rfl | (simp; done) | (simp [*]; done) | (simp; rw [Bool.eq_iff_iff]; simp; done), by repeat (first | exact Drawn0.refl _ | apply Drawn0.step)⟩
       ·rw [if_neg c7] at H
        exact absurd H (by simp)
      ·rw [if_neg c6] at H
       exact absurd H (by simp)
     ·replace c5 := Bool.eq_false_iff.mpr c5
      subst c5
      rw [if_neg zFT] at H
      replace H := Option.bind_eq_some_iff.mp H
      obtain ⟨t313, A120, H⟩ := H
      try dsimp only at H
      have A12 := Aside0.mk A120
      clear A120
      by_cases c13 : t313 = true
      ·subst c13
       rw [if_pos rfl] at H
       by_cases c14 : (a0.size : Int) > 1
       ·rw [if_pos c14] at H
        have c14b0 : decide (1 < (a0.size : Int)) = true := decide_eq_true c14
        have c14b1 : decide (1 < a0.size) = true := decide_eq_true (by omega)
        clear c14
        by_cases c15 : 0 < (a0.size : Int)
        ·rw [if_pos c15] at H
         have c15b0 := decide_eq_true c15
         have c15b1 : decide (0 < a0.size) = true := decide_eq_true (by omega)
         clear c15
         by_cases c17 : (bt a0 0) = 48
         ·rw [if_pos c17] at H
          have c17b0 : ((bt a0 0) == 48) = true := beq_iff_eq.mpr c17
          have c17b1 : ((bt a0 0) != 48) = false := bne_eq_false_iff_eq.mpr c17
          clear c17
          simp only [Option.some.injEq, Prod.mk.injEq] at H
          obtain ⟨rfl, rfl⟩ := H
          go_wp2_with (first | ((with_reducible refine zq 44 ?_); refine zg (some 33) Tryd.func44 #[.int .i64 (a0.size : Int), .int .i64 1, .int .i64 7] ?_; (with_reducible refine (spec_l1In.calls (a0.size : Int) 1 7 true _ A12.out).mono ?_); rintro e w' ⟨rfl, ⟨nd, rfl⟩⟩; refine ⟨_, rfl, ?_⟩; have p16 : 0 ≤ (0 : Int) := (by omega); have q16 : 0 < a0.size := (by have : (0 : Int) < (a0.size : Int) := zD; omega); have hx16 : ∀ h : 0 < a0.size, ((a0[0]'h).toNat : Int) = bt a0 0 := bt_at a0 0; clear p16; have qi16 : (0 < (a0.size : Int)) = True := eq_true (zD); replace q16 := eq_true q16))
          go_ret2
          exact ⟨by first | rfl | (simp; done) | (simp [*]; done) | (simp; rw [Bool.eq_iff_iff]; simp; done), by repeat (first | exact Drawn0.refl _ | apply Drawn0.step)⟩
         ·rw [if_neg c17] at H
          have c17b0 : ((bt a0 0) == 48) = false := beq_eq_false_iff_ne.mpr c17
          have c17b1 : ((bt a0 0) != 48) = true := bne_iff_ne.mpr c17
          by_cases c18 : x6_1 > a1
          ·rw [if_pos c18] at H
           have c18b0 : decide (a1 < x6_1) = true := decide_eq_true c18
           clear c18
           simp only [Option.some.injEq, Prod.mk.injEq] at H
           obtain ⟨rfl, rfl⟩ := H
           go_wp2_with (first | ((with_reducible refine zq 44 ?_); refine zg (some 33) Tryd.func44 #[.int .i64 (a0.size : Int), .int .i64 1, .int .i64 7] ?_; (with_reducible refine (spec_l1In.calls (a0.size : Int) 1 7 true _ A12.out).mono ?_); rintro e w' ⟨rfl, ⟨nd, rfl⟩⟩; refine ⟨_, rfl, ?_⟩; have p16 : 0 ≤ (0 : Int) := (by omega); have q16 : 0 < a0.size := (by have : (0 : Int) < (a0.size : Int) := zD; omega); have hx16 : ∀ h : 0 < a0.size, ((a0[0]'h).toNat : Int) = bt a0 0 := bt_at a0 0; clear p16; have qi16 : (0 < (a0.size : Int)) = True := eq_true (zD); replace q16 := eq_true q16))
           go_ret2
           exact ⟨by first | rfl | (simp; done) | (simp [*]; done) | (simp; rw [Bool.eq_iff_iff]; simp; done), by repeat (first | exact Drawn0.refl _ | apply Drawn0.step)⟩
          ·rw [if_neg c18] at H
           have c18b0 : decide (a1 < x6_1) = false := decide_eq_false c18
           clear c18
           simp only [Option.some.injEq, Prod.mk.injEq] at H
           obtain ⟨rfl, rfl⟩ := H
           go_wp2_with (first | ((with_reducible refine zq 44 ?_); refine zg (some 33) Tryd.func44 #[.int .i64 (a0.size : Int), .int .i64 1, .int .i64 7] ?_; (with_reducible refine (spec_l1In.calls (a0.size : Int) 1 7 true _ A12.out).mono ?_); rintro e w' ⟨rfl, ⟨nd, rfl⟩⟩; refine ⟨_, rfl, ?_⟩; have p16 : 0 ≤ (0 : Int) := (by omega); have q16 : 0 < a0.size := (by have : (0 : Int) < (a0.size : Int) := zD; omega); have hx16 : ∀ h : 0 < a0.size, ((a0[0]'h).toNat : Int) = bt a0 0 := bt_at a0 0; clear p16; have qi16 : (0 < (a0.size : Int)) = True := eq_true (zD); replace q16 := eq_true q16))
           go_ret2
           exact ⟨by first | rfl | (simp; done) | (simp [*]; done) | (simp; rw [Bool.eq_iff_iff]; simp; done), by repeat (first | exact Drawn0.refl _ | apply Drawn0.step)⟩
        ·rw [if_neg c15] at H
         exact absurd H (by simp)
       ·rw [if_neg c14] at H
        have c14b0 : decide (1 < (a0.size : Int)) = false := decide_eq_false c14
        have c14b1 : decide (1 < a0.size) = false := decide_eq_false (by omega)
        clear c14
        by_cases c19 : x6_1 > a1
        ·rw [if_pos c19] at H
         have c19b0 : decide (a1 < x6_1) = true := decide_eq_true c19
         clear c19
         simp only [Option.some.injEq, Prod.mk.injEq] at H
         obtain ⟨rfl, rfl⟩ := H
         go_wp2_with (first | ((with_reducible refine zq 44 ?_); refine zg (some 33) Tryd.func44 #[.int .i64 (a0.size : Int), .int .i64 1, .int .i64 7] ?_; (with_reducible refine (spec_l1In.calls (a0.size : Int) 1 7 true _ A12.out).mono ?_); rintro e w' ⟨rfl, ⟨nd, rfl⟩⟩; refine ⟨_, rfl, ?_⟩))
         go_ret2
         exact ⟨by first | rfl | (simp; done) | (simp [*]; done) | (simp; rw [Bool.eq_iff_iff]; simp; done), by repeat (first | exact Drawn0.refl _ | apply Drawn0.step)⟩
        ·rw [if_neg c19] at H
         have c19b0 : decide (a1 < x6_1) = false := decide_eq_false c19
         clear c19
         simp only [Option.some.injEq, Prod.mk.injEq] at H
         obtain ⟨rfl, rfl⟩ := H
         go_wp2_with (first | ((with_reducible refine zq 44 ?_); refine zg (some 33) Tryd.func44 #[.int .i64 (a0.size : Int), .int .i64 1, .int .i64 7] ?_; (with_reducible refine (spec_l1In.calls (a0.size : Int) 1 7 true _ A12.out).mono ?_); rintro e w' ⟨rfl, ⟨nd, rfl⟩⟩; refine ⟨_, rfl, ?_⟩))
         go_ret2
         exact ⟨by first | rfl | (simp; done) | (simp [*]; done) | (simp; rw [Bool.eq_iff_iff]; simp; done), by repeat (first | exact Drawn0.refl _ | apply Drawn0.step)⟩
      ·replace c13 := Bool.eq_false_iff.mpr c13
       subst c13
       rw [if_neg zFT] at H
       simp only [Option.some.injEq, Prod.mk.injEq] at H
       obtain ⟨rfl, rfl⟩ := H
       go_wp2_with (first | ((with_reducible refine zq 44 ?_); refine zg (some 33) Tryd.func44 #[.int .i64 (a0.size : Int), .int .i64 1, .int .i64 7] ?_; (with_reducible refine (spec_l1In.calls (a0.size : Int) 1 7 false _ A12.out).mono ?_); rintro e w' ⟨rfl, ⟨nd, rfl⟩⟩; refine ⟨_, rfl, ?_⟩))
       go_ret2
       exact ⟨by first | rfl | (simp; done) | (simp [*]; done) | (simp; rw [Bool.eq_iff_iff]; simp; done), by repeat (first | exact Drawn0.refl _ | apply Drawn0.step)⟩
/-! ### spec_ParseVer: function 10 -/
mutual
def spec_ParseVer.j1 : Nat → ByteArray → Int → Int → Int → Int → Option (Int × Int × Int × List ByteArray × Bool)
 | 0, _, _, _, _, _ => none
 | k + 1, x0, x5, x316000, x316001, x316002 => if x5 < (x0.size : Int) then (if 0 ≤ (wrap64 (x5 + 1)) then (if (wrap64 (x5 + 1)) ≤ (x0.size : Int) then ((spec_Split.f k (x0.extract ((wrap64 (x5 + 1)) : Int).toNat x0.size) 46).bind fun t316 => (spec_ParseVer.j2 k x0 x5 x316000 x316001 x316002 t316)) else (none)) else (none)) else (spec_ParseVer.j2 k x0 x5 x316000 x316001 x316002 ([] : List ByteArray))
def spec_ParseVer.j2 : Nat → ByteArray → Int → Int → Int → Int → List ByteArray → Option (Int × Int × Int × List ByteArray × Bool)
 | 0, _, _, _, _, _, _ => none
 | k + 1, x0, x5, x316000, x316001, x316002, x316003 => if 0 ≤ x5 then (if x5 ≤ (x0.size : Int) then ((spec_Split.f k (x0.extract 0 (x5 : Int).toNat) 46).bind fun t319 => (if (t319.length : Int) = 3 then (spec_ParseVer.j3 k t319 x316000 x316001 x316002 x316003) else (some (0, 0, 0, ([] : List ByteArray), false)))) else (none)) else (none)
def spec_ParseVer.j3 : Nat → List ByteArray → Int → Int → Int → List ByteArray → Option (Int × Int × Int × List ByteArray × Bool)
 | 0, _, _, _, _, _ => none
 | k + 1, x6, x316000, x316001, x316002, x316003 => if 0 < (x6.length : Int) then ((spec_ParseNum.f k (rdOf ByteArray.empty x6 0) 9999).bind fun bt323 => (if 1 < (x6.length : Int) then ((spec_ParseNum.f k (rdOf ByteArray.empty x6 1) 9999).bind fun bt326 => (if 2 < (x6.length : Int) then ((spec_ParseNum.f k (rdOf ByteArray.empty x6 2) 9999).bind fun bt329 => (if bt323.2 = true then (if bt326.2 = true then (if bt329.2 = true then ((spec_VerOk.f k bt323.1 bt326.1 bt329.1 x316003).bind fun t331 => (if t331 = true then (some (bt323.1, bt326.1, bt329.1, x316003, true)) else (some (0, 0, 0, ([] : List ByteArray), false)))) else (some (0, 0, 0, ([] : List ByteArray), false))) else (some (0, 0, 0, ([] : List ByteArray), false))) else (some (0, 0, 0, ([] : List ByteArray), false)))) else (none))) else (none))) else (none)
def spec_ParseVer.l0 : Nat → ByteArray → Int → Int → Int → Int → Option (Int × Int × Int × List ByteArray × Bool)
 | 0, _, _, _, _, _ => none
 | k + 1, x0, x5, x316000, x316001, x316002 => if x5 < (x0.size : Int) then (if 0 ≤ x5 then (if (bt x0 x5) = 45 then (spec_ParseVer.j1 k x0 x5 x316000 x316001 x316002) else (spec_ParseVer.l0 k x0 (wrap64 (x5 + 1)) x316000 x316001 x316002)) else (none)) else (spec_ParseVer.j1 k x0 x5 x316000 x316001 x316002)
end
def spec_ParseVer.f (k : Nat) (a0 : ByteArray) : Option (Int × Int × Int × List ByteArray × Bool) := spec_ParseVer.l0 k a0 0 0 0 0
theorem spec_ParseVer.calls (k : Nat) (a0 : ByteArray) (r1 : Int) (r2 : Int) (r3 : Int) (r4 : List ByteArray) (r5 : Bool) (w : World) (h : spec_ParseVer.f k a0 = some (r1, r2, r3, r4, r5)) :
  Calls Tryd.prog 10 #[.string a0] w fun e w' => ∃ v3_ : Value, e = .returned (.tuple #[.agg #[.int .i64 r1, .int .i64 r2, .int .i64 r3, v3_], .bool r5]) ∧ Kd.R Kd.string 9 w' w.heap.size (fun _ => True) v3_ r4 ∧ Below w.heap.size w w' := by
 have hu26 := Tryd.underlying26
 have HB := zA (Below.refl w.heap.size w)
 have H : (spec_ParseVer.l0 k a0 0 0 0 0) = some (r1, r2, r3, r4, r5) := h
 clear h
 have HC2 := Aside0.mk H
 clear H
 go_enter Tryd.func10, Tryd.ntmps10
 go_upto_block 0 with (first | ((with_reducible refine zd 2 ?_); refine ze 2 26 #[.int .i64 0, .int .i64 0, .int .i64 0, .slice none 0 0] ?_; intro gb314 hg w3 hbox hb; have BK314 := zA (hbox); have GW314 := zi HB hg; have GE314 := zi HB hg; replace HB := zA (below_step (zB) hb); clear hb hbox hg) | ((with_reducible refine zd 4 ?_); refine ze 4 26 #[.int .i64 0, .int .i64 0, .int .i64 0, .slice none 0 0] ?_; intro gb315 hg w4 hbox hb; have BK315 := zA (hbox); have GW315 := zi HB hg; have GE315 := zi HB hg; replace HB := zh HB hb; have NB314_315 := zA (zL hg (zK BK314.out)); have NB315_314 := zA (zJ hg (zK BK314.out)); replace BK314 := zb BK314 hb; clear hb hbox hg; have hnb5 := NB315_314.out; have hnc5 := NB314_315.out; obtain ⟨hcz6_0, hcz6_1, hcz6_2, hcz6_3, hfz6_0, hfz6_1, hfz6_2, hfz6_3⟩ := ze4 BK315.out))
 (try simp only [Act.put, zT])
 go_cut [5] (fun v5 wc => ∃ (kq : Nat) (x5_1 : Int), v5 = .int .i64 x5_1 ∧ Aside0 (spec_ParseVer.j1 kq a0 x5_1 0 0 0 = some (r1, r2, r3, r4, r5)) ∧ Aside0 (kq ≤ k) ∧ Aside0 (wc.heap[gb314]? = some (.cells #[.int .i64 0, .int .i64 0, .int .i64 0, (.slice none 0 0)] 26 (0, 0))) ∧ Aside0 (wc.heap[gb315]? = some (.cells #[.int .i64 0, .int .i64 0, .int .i64 0, (.slice none 0 0)] 26 (0, 0))) ∧ Aside0 (Below w.heap.size w wc))
 case first =>
  have H := HC2.out
  clear HC2
  have H' := Aside0.mk H
  clear H
  go_wp2
  go_loopg [5] k (fun kq v5 w' => ∃ (x5_1 : Int), v5 = .int .i64 x5_1 ∧ Aside0 (spec_ParseVer.l0 kq a0 x5_1 0 0 0 = some (r1, r2, r3, r4, r5)) ∧ Aside0 (kq ≤ k) ∧ Aside0 (w'.heap[gb314]? = some (.cells #[.int .i64 0, .int .i64 0, .int .i64 0, (.slice none 0 0)] 26 (0, 0))) ∧ Aside0 (w'.heap[gb315]? = some (.cells #[.int .i64 0, .int .i64 0, .int .i64 0, (.slice none 0 0)] 26 (0, 0))) ∧ Aside0 (Below w.heap.size w w'))
  case atStart => exact ⟨(0), zS, H', ⟨Nat.le_refl _⟩, ⟨zK BK314.out⟩, ⟨by (with_reducible repeat (first | refine blk_drewN ?_ _ | refine blk_drew ?_ | refine blk_alloc ?_ _)); refine blk_put (cs := #[.int .i64 0, .int .i64 0, .int .i64 0, .slice none 0 0]) ?_ 3 _ rfl; (with_reducible repeat (first | refine blk_drewN ?_ _ | refine blk_drew ?_ | refine blk_alloc ?_ _)); refine blk_put (cs := #[.int .i64 0, .int .i64 0, .int .i64 0, .slice none 0 0]) ?_ 2 _ rfl; (with_reducible repeat (first | refine blk_drewN ?_ _ | refine blk_drew ?_ | refine blk_alloc ?_ _)); refine blk_put (cs := #[.int .i64 0, .int .i64 0, .int .i64 0, .slice none 0 0]) ?_ 1 _ rfl; (with_reducible repeat (first | refine blk_drewN ?_ _ | refine blk_drew ?_ | refine blk_alloc ?_ _)); refine blk_put (cs := #[.int .i64 0, .int .i64 0, .int .i64 0, .slice none 0 0]) ?_ 0 _ rfl; (with_reducible repeat (first | refine blk_drewN ?_ _ | refine blk_drew ?_ | refine blk_alloc ?_ _)); exact BK315.out⟩, ⟨zW HB.out⟩⟩
  case round =>
   clear H'
   try clear c1
   try clear p2
   try clear c5
   try clear hcz6_0 hcz6_1 hcz6_2 hcz6_3 hfz6_0 hfz6_1 hfz6_2 hfz6_3
   obtain ⟨x5_1, rfl, HA, HK1, BK314, BK315, HB⟩ := hrel
   cases gk with
   | zero => exact absurd HA.out (by simp [spec_ParseVer.l0])
   | succ k1 =>
    have H := HA.out
    clear HA
    simp only [spec_ParseVer.l0] at H
    by_cases c7 : x5_1 < (a0.size : Int)
    ·rw [if_pos c7] at H
     have c7b0 := decide_eq_true c7
     clear c7
     (first | rw [c7b0] | (simp only [i64_w, i32_w]; rw [c7b0]) | skip)
     by_cases c8 : 0 ≤ x5_1
     ·rw [if_pos c8] at H
      have c8b0 := decide_eq_true c8
      clear c8
      by_cases c10 : (bt a0 x5_1) = 45
      ·rw [if_pos c10] at H
       have c10b0 : ((bt a0 x5_1) == 45) = true := beq_iff_eq.mpr c10
       have c10b1 : ((bt a0 x5_1) != 45) = false := bne_eq_false_iff_eq.mpr c10
       clear c10
       have H' := Aside0.mk H
       clear H
       have p9 : 0 ≤ (x5_1 : Int) := zD
       have q9 : x5_1 < (a0.size : Int) := zD
       have hx9 := bt_at a0 x5_1
       replace p9 := eq_true p9
       replace q9 := eq_true q9
       go_wp2
       go_meet
       case rel => exact ⟨_, (x5_1), zS, (by first | exact H' | (subst_vars; exact H')), ⟨by have := HK1.out; first | omega | exact Nat.le_refl _⟩, ⟨zK BK314.out⟩, ⟨zK BK315.out⟩, ⟨zW HB.out⟩⟩
      ·rw [if_neg c10] at H
       have c10b0 : ((bt a0 x5_1) == 45) = false := beq_eq_false_iff_ne.mpr c10
       have c10b1 : ((bt a0 x5_1) != 45) = true := bne_iff_ne.mpr c10
       have H' := Aside0.mk H
       clear H
       have p9 : 0 ≤ (x5_1 : Int) := zD
       have q9 : x5_1 < (a0.size : Int) := zD
       have hx9 := bt_at a0 x5_1
       replace p9 := eq_true p9
       replace q9 := eq_true q9
       go_wp2
       go_roundg k1
       case measure => have := HK1.out; omega
       case rel => exact ⟨(wrap64 (x5_1 + 1)), zS, H', ⟨by have := HK1.out; omega⟩, ⟨zK BK314.out⟩, ⟨zK BK315.out⟩, ⟨zW HB.out⟩⟩
     ·rw [if_neg c8] at H
      exact absurd H (by simp)
    ·rw [if_neg c7] at H
     have c7b0 := decide_eq_false c7
     clear c7
     (first | rw [c7b0] | (simp only [i64_w, i32_w]; rw [c7b0]) | skip)
     have H' := Aside0.mk H
     clear H
     go_wp2
     go_meet
     case rel => exact ⟨_, (x5_1), zS, (by first | exact H' | (subst_vars; exact H')), ⟨by have := HK1.out; first | omega | exact Nat.le_refl _⟩, ⟨zK BK314.out⟩, ⟨zK BK315.out⟩, ⟨zW HB.out⟩⟩
 case rest =>
  clear HC2
  try clear c1
  try clear p2
  try clear c5
  try clear p6
  try clear c7
  try clear c7b0
  try clear c8
  try clear c8b0
  try clear p9
  try clear q9
  try clear hx9
  try clear c10
  try clear c10b0
  try clear c10b1
  try clear hcz6_0 hcz6_1 hcz6_2 hcz6_3 hfz6_0 hfz6_1 hfz6_2 hfz6_3
  try clear p2
  try clear p9
  try clear q9
  obtain ⟨kq, x5_1, rfl, HA, HJ1, BK314, BK315, HB⟩ := hcut
  cases kq with
  | zero => exact absurd HA.out (by simp [spec_ParseVer.j1])
  | succ kj1 =>
   have H := HA.out
   clear HA
   simp only [spec_ParseVer.j1] at H
   have HC11 := Aside0.mk H
   clear H
   go_upto_if 29 with (fail)
   go_cut [] (fun wc => ∃ (kq : Nat) (x316003_10 : List ByteArray) (u316003 : Value), Aside0 (spec_ParseVer.j2 kq a0 x5_1 0 0 0 x316003_10 = some (r1, r2, r3, r4, r5)) ∧ Aside0 (kq ≤ kj1) ∧ Aside0 (Kd.R Kd.string 9 wc w.heap.size (fun _ => True) u316003 x316003_10) ∧ Aside0 (wc.heap[gb314]? = some (.cells #[.int .i64 0, .int .i64 0, .int .i64 0, (.slice none 0 0)] 26 (0, 0))) ∧ Aside0 (wc.heap[gb315]? = some (.cells #[.int .i64 0, .int .i64 0, .int .i64 0, u316003] 26 (0, 0))) ∧ Aside0 (Below w.heap.size w wc))
   case first =>
    have H := HC11.out
    clear HC11
    by_cases c12 : x5_1 < (a0.size : Int)
    ·rw [if_pos c12] at H
     have c12b0 := decide_eq_true c12
     clear c12
     (first | rw [c12b0] | (simp only [i64_w, i32_w]; rw [c12b0]) | skip)
     obtain ⟨ji13, hji13⟩ : ∃ j_ : Int, (wrap64 (x5_1 + 1)) = j_ := ⟨_, rfl⟩
     replace H : (if 0 ≤ (ji13) then (if (ji13) ≤ (a0.size : Int) then ((spec_Split.f kj1 (a0.extract ((ji13) : Int).toNat a0.size) 46).bind fun t316 => (spec_ParseVer.j2 kj1 a0 x5_1 0 0 0 t316)) else (none)) else (none)) = some (r1, r2, r3, r4, r5) := by first | (rw [hji13] at H; exact H) | (simp only [hji13] at H ⊢; exact H)
     have hji13w : (IntKind.i64.wrap (x5_1 + 1)) = ji13 := (i64_w _).trans hji13
     by_cases c14 : 0 ≤ (ji13)
     ·rw [if_pos c14] at H
      have c14b0 := eq_true c14
      have c14b1 := decide_eq_true c14
      clear c14
      by_cases c15 : (ji13) ≤ (a0.size : Int)
      ·rw [if_pos c15] at H
       have c15b0 := eq_true c15
       have c15b1 := decide_eq_true c15
       clear c15
       replace H := Option.bind_eq_some_iff.mp H
       obtain ⟨t316, A160, H⟩ := H
       try dsimp only at H
       have A16 := Aside0.mk A160
       clear A160
       have H' := Aside0.mk H
       clear H
       go_wp2_with (first | ((with_reducible refine gate_callee (f := 37) rfl ?_); refine goesL_ (some 34) rfl rfl Tryd.func37 (by kernel_rfl) rfl #[.string (a0.extract ((ji13) : Int).toNat a0.size), .int .u8 46] rfl (by (try simp only [List.map_toArray, List.map_cons, List.map_nil]); first | done | (simp only [hji13]; rfl) | rfl | (simp only [List.length_drop, List.length_take]; rfl)) ?_; (with_reducible refine (spec_Split.calls kj1 (a0.extract ((ji13) : Int).toNat a0.size) 46 t316 _ A16.out).mono ?_); rintro e w17 ⟨v317, rfl, ho0, hb⟩; refine ⟨_, rfl, ?_⟩; have HO318 := zA (Kd.R_lower ho0 (below_size (zW HB.out))); replace BK314 := zb BK314 hb; replace BK315 := zb BK315 hb; replace HB := zh HB hb; (try clear hb ho0); obtain ⟨Ao18, co18, eo18⟩ := Kd.R_slice HO318.out; subst eo18; have hnb19 := NB315_314.out; have hnc19 := NB314_315.out; obtain ⟨hcz20_0, hcz20_1, hcz20_2, hcz20_3, hfz20_0, hfz20_1, hfz20_2, hfz20_3⟩ := ze4 BK315.out))
       go_meet
       case rel => exact ⟨_, (t316), (.slice Ao18 t316.length co18), (by first | exact H' | (subst_vars; exact H')), ⟨by have := HJ1.out; first | omega | exact Nat.le_refl _⟩, ⟨by (with_reducible repeat (first | apply Kd.R_alloc | apply Kd.R_drewN | apply Kd.R_drew)); exact Kd.R_mono (Kd.R_far (p := ⟨gb315, 3, none⟩) (Kd.R_types HO318.out BK315.out (by decide)) (fun _ hk => hk.2) (.slice Ao18 t316.length co18)) (fun _ hk => trivial)⟩, ⟨zK BK314.out⟩, ⟨by (with_reducible repeat (first | refine blk_drewN ?_ _ | refine blk_drew ?_ | refine blk_alloc ?_ _)); refine blk_put (cs := #[.int .i64 0, .int .i64 0, .int .i64 0, .slice none 0 0]) ?_ 3 _ rfl; (with_reducible repeat (first | refine blk_drewN ?_ _ | refine blk_drew ?_ | refine blk_alloc ?_ _)); exact BK315.out⟩, ⟨zW HB.out⟩⟩
      ·rw [if_neg c15] at H
       exact absurd H (by simp)
     ·rw [if_neg c14] at H
      exact absurd H (by simp)
    ·rw [if_neg c12] at H
     have c12b0 := decide_eq_false c12
     clear c12
     (first | rw [c12b0] | (simp only [i64_w, i32_w]; rw [c12b0]) | skip)
     have H' := Aside0.mk H
     clear H
     go_wp2
     go_meet
     case rel => exact ⟨_, (([] : List ByteArray)), (.slice none 0 0), (by first | exact H' | (subst_vars; exact H')), ⟨by have := HJ1.out; first | omega | exact Nat.le_refl _⟩, ⟨by first | exact Kd.R_nil _ _ _ _ _ | exact Kd.N_nil _ _ _ _ _ | exact Kd.V_nil _ _ _ _ _ | exact Kd.Q_nil _ _ _ _ _ | exact Kd.S_nil _ _ _ _ _⟩, ⟨zK BK314.out⟩, ⟨zK BK315.out⟩, ⟨zW HB.out⟩⟩
   case rest =>
    clear HC11
    try clear c1
    try clear p2
    try clear c3
    try clear c5
    try clear p6
    try clear c7
    try clear c7b0
    try clear c8
    try clear c8b0
    try clear p9
    try clear q9
    try clear hx9
    try clear c10
    try clear c10b0
    try clear c10b1
    try clear c12
    try clear c12b0
    try clear c14
    try clear c14b0
    try clear c14b1
    try clear c15
    try clear c15b0
    try clear c15b1
    try clear c19
    try clear hcz20_0
    try clear hcz20_1
    try clear hcz20_2
    try clear hcz20_3
    try clear hcz6_0
    try clear hcz6_1
    try clear hcz6_2
    try clear hcz6_3
    try clear hfz20_0
    try clear hfz20_1
    try clear hfz20_2
    try clear hfz20_3
    try clear hfz6_0
    try clear hfz6_1
    try clear hfz6_2
    try clear hfz6_3
    try clear p2
    try clear p6
    try clear p9
    try clear q9
    obtain ⟨kq, x316003_10, u316003, HA, HJ10, HO_316003, BK314, BK315, HB⟩ := hcut
    cases kq with
    | zero => exact absurd HA.out (by simp [spec_ParseVer.j2])
    | succ kj10 =>
     have H := HA.out
     clear HA
     simp only [spec_ParseVer.j2] at H
     by_cases c21 : 0 ≤ x5_1
     ·rw [if_pos c21] at H
      have c21b0 := eq_true c21
      have c21b1 := decide_eq_true c21
      clear c21
      by_cases c22 : x5_1 ≤ (a0.size : Int)
      ·rw [if_pos c22] at H
       have c22b0 := eq_true c22
       have c22b1 := decide_eq_true c22
       clear c22
       replace H := Option.bind_eq_some_iff.mp H
       obtain ⟨t319, A230, H⟩ := H
       try dsimp only at H
       have A23 := Aside0.mk A230
       clear A230
       have HC24 := Aside0.mk H
       clear H
       go_upto_if 42 with (first | ((with_reducible refine zq 37 ?_); refine zg (some 39) Tryd.func37 #[.string (a0.extract 0 (x5_1 : Int).toNat), .int .u8 46] ?_; (with_reducible refine (spec_Split.calls kj10 (a0.extract 0 (x5_1 : Int).toNat) 46 t319 _ A23.out).mono ?_); rintro e w25 ⟨v320, rfl, ho0, hb⟩; refine ⟨_, rfl, ?_⟩; have HO321 := zA (Kd.R_lower (Kd.R_new' ho0 (Kd.R_lt (zR HO_316003.out))) (below_size (zW HB.out))); replace HO_316003 := zA (Kd.R_elder' (zR HO_316003.out) (Kd.R_base ho0) hb); replace BK314 := zb BK314 hb; replace BK315 := zb BK315 hb; replace HB := zh HB hb; (try clear hb ho0); obtain ⟨Ao26, co26, eo26⟩ := Kd.R_slice HO321.out; subst eo26))
       (try simp only [Act.put, zT])
       go_cut [] (fun wc => ∃ (kq : Nat) (x315000_23 : Int) (x315001_23 : Int) (x315002_23 : Int), Aside0 (spec_ParseVer.j3 kq t319 0 0 0 x316003_10 = some (r1, r2, r3, r4, r5)) ∧ Aside0 (kq ≤ kj10) ∧ Aside0 (Kd.R Kd.string 9 wc w.heap.size (fun k_ => some k_ ≠ (u316003 : Value).ownBlock) (.slice Ao26 t319.length co26) t319) ∧ Aside0 (Kd.R Kd.string 9 wc w.heap.size (fun k_ => some k_ ≠ ((.slice Ao26 t319.length co26) : Value).ownBlock) u316003 x316003_10) ∧ Aside0 (wc.heap[gb314]? = some (.cells #[.int .i64 x315000_23, .int .i64 x315001_23, .int .i64 x315002_23, (.slice none 0 0)] 26 (0, 0))) ∧ Aside0 (wc.heap[gb315]? = some (.cells #[.int .i64 0, .int .i64 0, .int .i64 0, u316003] 26 (0, 0))) ∧ Aside0 (Below w.heap.size w wc))
       case first =>
        have H := HC24.out
        clear HC24
        by_cases c27 : (t319.length : Int) = 3
        ·rw [if_pos c27] at H
         have c27b0 : ((t319.length : Int) == 3) = true := beq_iff_eq.mpr c27
         have c27b1 : ((t319.length : Int) != 3) = false := bne_eq_false_iff_eq.mpr c27
         clear c27
         (first | rw [c27b0] | (simp only [i64_w, i32_w]; rw [c27b0]) | skip)
         have H' := Aside0.mk H
         clear H
         go_wp2
         go_meet
         case rel => exact ⟨_, (0), (0), (0), (by first | exact H' | (subst_vars; exact H')), ⟨by have := HJ1.out; have := HJ10.out; first | omega | exact Nat.le_refl _⟩, ⟨by (with_reducible repeat (first | apply Kd.R_alloc | apply Kd.R_drewN | apply Kd.R_drew)); exact Kd.R_mono HO321.out (fun _ hk => hk.2)⟩, ⟨by (with_reducible repeat (first | apply Kd.R_alloc | apply Kd.R_drewN | apply Kd.R_drew)); exact Kd.R_mono HO_316003.out (fun _ hk => hk.2)⟩, ⟨zK BK314.out⟩, ⟨zK BK315.out⟩, ⟨zW HB.out⟩⟩
        ·rw [if_neg c27] at H
         have c27b0 : ((t319.length : Int) == 3) = false := beq_eq_false_iff_ne.mpr c27
         have c27b1 : ((t319.length : Int) != 3) = true := bne_iff_ne.mpr c27
         (first | rw [c27b0] | (simp only [i64_w, i32_w]; rw [c27b0]) | skip)
         simp only [Option.some.injEq, Prod.mk.injEq] at H
         obtain ⟨rfl, rfl, rfl, rfl, rfl⟩ := H
         have hnb28 := NB314_315.out
         have hnc28 := NB315_314.out
         obtain ⟨hcz29_0, hcz29_1, hcz29_2, hcz29_3, hfz29_0, hfz29_1, hfz29_2, hfz29_3⟩ := ze4 BK314.out
         go_wp2
         refine bodyPost_ret (results_ct rfl _ _ gb314 26 #[.int .i64 0, .int .i64 0, .int .i64 0, .slice none 0 0] (0, 0) _ rfl (by (with_reducible repeat (first | refine blk_drewN ?_ _ | refine blk_drew ?_ | refine blk_alloc ?_ _)); refine blk_put (cs := #[.int .i64 0, .int .i64 0, .int .i64 0, .slice none 0 0]) ?_ 3 _ rfl; (with_reducible repeat (first | refine blk_drewN ?_ _ | refine blk_drew ?_ | refine blk_alloc ?_ _)); refine blk_put (cs := #[.int .i64 0, .int .i64 0, .int .i64 0, .slice none 0 0]) ?_ 2 _ rfl; (with_reducible repeat (first | refine blk_drewN ?_ _ | refine blk_drew ?_ | refine blk_alloc ?_ _)); refine blk_put (cs := #[.int .i64 0, .int .i64 0, .int .i64 0, .slice none 0 0]) ?_ 1 _ rfl; (with_reducible repeat (first | refine blk_drewN ?_ _ | refine blk_drew ?_ | refine blk_alloc ?_ _)); refine blk_put (cs := #[.int .i64 0, .int .i64 0, .int .i64 0, .slice none 0 0]) ?_ 0 _ rfl; (with_reducible repeat (first | refine blk_drewN ?_ _ | refine blk_drew ?_ | refine blk_alloc ?_ _)); exact BK314.out) Tryd.underlying26 rfl (by kernel_rfl)) rfl ?_
         exact ⟨_, zE, by first | exact Kd.R_nil _ _ _ _ _ | exact Kd.N_nil _ _ _ _ _ | exact Kd.V_nil _ _ _ _ _ | exact Kd.Q_nil _ _ _ _ _ | exact Kd.S_nil _ _ _ _ _, zW HB.out⟩
       case rest =>
        clear HC24
        try clear c1
        try clear c2
        try clear p2
        try clear c3
        try clear c5
        try clear p6
        try clear c7
        try clear c7b0
        try clear c8
        try clear c8b0
        try clear p9
        try clear q9
        try clear hx9
        try clear c10
        try clear c10b0
        try clear c10b1
        try clear c12
        try clear c12b0
        try clear c14
        try clear c14b0
        try clear c14b1
        try clear c15
        try clear c15b0
        try clear c15b1
        try clear c19
        try clear c21
        try clear c21b0
        try clear c21b1
        try clear c22
        try clear c22b0
        try clear c22b1
        try clear c27
        try clear c27b0
        try clear c27b1
        try clear c28
        try clear hcz20_0
        try clear hcz20_1
        try clear hcz20_2
        try clear hcz20_3
        try clear hcz29_0
        try clear hcz29_1
        try clear hcz29_2
        try clear hcz29_3
        try clear hcz6_0
        try clear hcz6_1
        try clear hcz6_2
        try clear hcz6_3
        try clear hfz20_0
        try clear hfz20_1
        try clear hfz20_2
        try clear hfz20_3
        try clear hfz29_0
        try clear hfz29_1
        try clear hfz29_2
        try clear hfz29_3
        try clear hfz6_0
        try clear hfz6_1
        try clear hfz6_2
        try clear hfz6_3
        try clear p2
        try clear p6
        try clear p9
        try clear q9
        obtain ⟨kq, x315000_23, x315001_23, x315002_23, HA, HJ23, HO_6, HO_316003, BK314, BK315, HB⟩ := hcut
        cases kq with
        | zero => exact absurd HA.out (by simp [spec_ParseVer.j3])
        | succ kj23 =>
         have H := HA.out
         clear HA
         simp only [spec_ParseVer.j3] at H
         by_cases c30 : 0 < (t319.length : Int)
         ·rw [if_pos c30] at H
          have c30b0 := decide_eq_true c30
          have c30b1 : decide (0 < t319.length) = true := decide_eq_true (by omega)
          clear c30
          replace H := Option.bind_eq_some_iff.mp H
          obtain ⟨⟨t323, t324⟩, A310, H⟩ := H
          try dsimp only at H
          have A31 := Aside0.mk A310
          clear A310
          by_cases c32 : 1 < (t319.length : Int)
          ·rw [if_pos c32] at H
           have c32b0 := decide_eq_true c32
           have c32b1 : decide (1 < t319.length) = true := decide_eq_true (by omega)
           clear c32
           replace H := Option.bind_eq_some_iff.mp H
           obtain ⟨⟨t326, t327⟩, A330, H⟩ := H
           try dsimp only at H
           have A33 := Aside0.mk A330
           clear A330
           by_cases c34 : 2 < (t319.length : Int)
           ·rw [if_pos c34] at H
            have c34b0 := decide_eq_true c34
            have c34b1 : decide (2 < t319.length) = true := decide_eq_true (by omega)
            clear c34
            replace H := Option.bind_eq_some_iff.mp H
            obtain ⟨⟨t329, t330⟩, A350, H⟩ := H
            try dsimp only at H
            have A35 := Aside0.mk A350
            clear A350
            by_cases c36 : t324 = true
            ·subst c36
             rw [if_pos rfl] at H
             by_cases c37 : t327 = true
             ·subst c37
              rw [if_pos rfl] at H
              by_cases c38 : t330 = true
              ·subst c38
               rw [if_pos rfl] at H
               replace H := Option.bind_eq_some_iff.mp H
               obtain ⟨t331, A390, H⟩ := H
               try dsimp only at H
               have A39 := Aside0.mk A390
               clear A390
               by_cases c40 : t331 = true
               ·subst c40
                rw [if_pos rfl] at H
                simp only [Option.some.injEq, Prod.mk.injEq] at H
                obtain ⟨rfl, rfl, rfl, rfl, rfl⟩ := H
                have p322 : 0 ≤ (0 : Int) := (by omega)
                have q322 : 0 < (t319.length : Int) := zD
                obtain ⟨ad322, e322, hx322_0⟩ := Kd.at_string (Kd.R_reads' HO_6.out).2.2 0 p322 q322
                cases e322
                have qi322 : (0 < t319.length) = True := eq_true (by omega)
                (try rw [show ((0 : Int)).toNat = 0 from rfl] at hx322_0)
                (try rw [Addr.add_zero'] at hx322_0)
                replace p322 := eq_true p322
                replace q322 := eq_true q322
                go_wp2_with (first | ((with_reducible refine zq 38 ?_); refine zg (some 48) Tryd.func38 #[.string (rdOf ByteArray.empty t319 0), .int .i64 9999] ?_; (with_reducible refine (spec_ParseNum.calls kj23 (rdOf ByteArray.empty t319 0) 9999 t323 true _ A31.out).mono ?_); rintro e w' ⟨rfl, ⟨nd, rfl⟩⟩; refine ⟨_, rfl, ?_⟩; (try (rw [drewN_self wc]; generalize hq_ : World.drewN wc _ = wc; have n0_ : Aside0 (Kd.R Kd.string 9 wc w.heap.size (fun k_ => some k_ ≠ (.slice (some ad322) t319.length co26 : Value).ownBlock) u316003 x316003_10) := ⟨by rw [← hq_]; exact (zR HO_316003.out)⟩; have n1_ : Aside0 (Kd.R Kd.string 9 wc w.heap.size (fun k_ => some k_ ≠ (u316003 : Value).ownBlock) (.slice (some ad322) t319.length co26) t319) := ⟨by rw [← hq_]; exact (zR HO_6.out)⟩; have n2_ : Aside0 (wc.heap[gb314]? = some (.cells #[.int .i64 x315000_23, .int .i64 x315001_23, .int .i64 x315002_23, .slice none 0 0] 26 (0, 0))) := ⟨by rw [← hq_]; exact (zK BK314.out)⟩; have n3_ : Aside0 (wc.heap[gb315]? = some (.cells #[.int .i64 0, .int .i64 0, .int .i64 0, u316003] 26 (0, 0))) := ⟨by rw [← hq_]; exact (zK BK315.out)⟩; have n4_ : Aside0 (Below w.heap.size w wc) := ⟨by rw [← hq_]; exact (zW HB.out)⟩; clear HO_316003 HO_6 BK314 BK315 HB hq_; have HO_316003 := n0_; have HO_6 := n1_; have BK314 := n2_; have BK315 := n3_; have HB := n4_; clear n0_ n1_ n2_ n3_ n4_)); have p325 : 0 ≤ (1 : Int) := (by omega); have q325 : 1 < (t319.length : Int) := zD; obtain ⟨ad325, e325, hx325_0⟩ := Kd.at_string (Kd.R_reads' HO_6.out).2.2 1 p325 q325; obtain rfl : ad322 = ad325 := (by injection e325); (try simp only [show (1 : Int).toNat = 1 from rfl, Nat.reduceMul, Nat.reduceEqDiff, Go.Addr.add, ↓reduceIte] at hx325_0); have qi325 : (1 < t319.length) = True := eq_true (by omega); (try rw [show ((1 : Int)).toNat = 1 from rfl] at hx325_0); replace p325 := eq_true p325; replace q325 := eq_true q325) | ((with_reducible refine zq 38 ?_); refine zg (some 55) Tryd.func38 #[.string (rdOf ByteArray.empty t319 1), .int .i64 9999] ?_; (with_reducible refine (spec_ParseNum.calls kj23 (rdOf ByteArray.empty t319 1) 9999 t326 true _ A33.out).mono ?_); rintro e w' ⟨rfl, ⟨nd, rfl⟩⟩; refine ⟨_, rfl, ?_⟩; (try (rw [drewN_self wc]; generalize hq_ : World.drewN wc _ = wc; have n0_ : Aside0 (Kd.R Kd.string 9 wc w.heap.size (fun k_ => some k_ ≠ (.slice (some ad322) t319.length co26 : Value).ownBlock) u316003 x316003_10) := ⟨by rw [← hq_]; exact (zR HO_316003.out)⟩; have n1_ : Aside0 (Kd.R Kd.string 9 wc w.heap.size (fun k_ => some k_ ≠ (u316003 : Value).ownBlock) (.slice (some ad322) t319.length co26) t319) := ⟨by rw [← hq_]; exact (zR HO_6.out)⟩; have n2_ : Aside0 (wc.heap[gb314]? = some (.cells #[.int .i64 x315000_23, .int .i64 x315001_23, .int .i64 x315002_23, .slice none 0 0] 26 (0, 0))) := ⟨by rw [← hq_]; exact (zK BK314.out)⟩; have n3_ : Aside0 (wc.heap[gb315]? = some (.cells #[.int .i64 0, .int .i64 0, .int .i64 0, u316003] 26 (0, 0))) := ⟨by rw [← hq_]; exact (zK BK315.out)⟩; have n4_ : Aside0 (Below w.heap.size w wc) := ⟨by rw [← hq_]; exact (zW HB.out)⟩; clear HO_316003 HO_6 BK314 BK315 HB hq_; have HO_316003 := n0_; have HO_6 := n1_; have BK314 := n2_; have BK315 := n3_; have HB := n4_; clear n0_ n1_ n2_ n3_ n4_)); have p328 : 0 ≤ (2 : Int) := (by omega); have q328 : 2 < (t319.length : Int) := zD; obtain ⟨ad328, e328, hx328_0⟩ := Kd.at_string (Kd.R_reads' HO_6.out).2.2 2 p328 q328; obtain rfl : ad322 = ad328 := (by injection e328); (try simp only [show (2 : Int).toNat = 2 from rfl, Nat.reduceMul, Nat.reduceEqDiff, Go.Addr.add, ↓reduceIte] at hx328_0); have qi328 : (2 < t319.length) = True := eq_true (by omega); (try rw [show ((2 : Int)).toNat = 2 from rfl] at hx328_0); replace p328 := eq_true p328; replace q328 := eq_true q328) | ((with_reducible refine zq 38 ?_); refine zg (some 62) Tryd.func38 #[.string (rdOf ByteArray.empty t319 2), .int .i64 9999] ?_; (with_reducible refine (spec_ParseNum.calls kj23 (rdOf ByteArray.empty t319 2) 9999 t329 true _ A35.out).mono ?_); rintro e w' ⟨rfl, ⟨nd, rfl⟩⟩; refine ⟨_, rfl, ?_⟩; (try (rw [drewN_self wc]; generalize hq_ : World.drewN wc _ = wc; have n0_ : Aside0 (Kd.R Kd.string 9 wc w.heap.size (fun k_ => some k_ ≠ (.slice (some ad322) t319.length co26 : Value).ownBlock) u316003 x316003_10) := ⟨by rw [← hq_]; exact (zR HO_316003.out)⟩; have n1_ : Aside0 (Kd.R Kd.string 9 wc w.heap.size (fun k_ => some k_ ≠ (u316003 : Value).ownBlock) (.slice (some ad322) t319.length co26) t319) := ⟨by rw [← hq_]; exact (zR HO_6.out)⟩; have n2_ : Aside0 (wc.heap[gb314]? = some (.cells #[.int .i64 x315000_23, .int .i64 x315001_23, .int .i64 x315002_23, .slice none 0 0] 26 (0, 0))) := ⟨by rw [← hq_]; exact (zK BK314.out)⟩; have n3_ : Aside0 (wc.heap[gb315]? = some (.cells #[.int .i64 0, .int .i64 0, .int .i64 0, u316003] 26 (0, 0))) := ⟨by rw [← hq_]; exact (zK BK315.out)⟩; have n4_ : Aside0 (Below w.heap.size w wc) := ⟨by rw [← hq_]; exact (zW HB.out)⟩; clear HO_316003 HO_6 BK314 BK315 HB hq_; have HO_316003 := n0_; have HO_6 := n1_; have BK314 := n2_; have BK315 := n3_; have HB := n4_; clear n0_ n1_ n2_ n3_ n4_)); have hnb41 := NB315_314.out; have hnc41 := NB314_315.out; obtain ⟨hcz42_0, hcz42_1, hcz42_2, hcz42_3, hfz42_0, hfz42_1, hfz42_2, hfz42_3⟩ := ze4 BK315.out; obtain ⟨Ao43, co43, eo43⟩ := Kd.R_slice HO_316003.out; subst eo43) | (go_at_call 15; (with_reducible refine (spec_VerOk.calls kj23 t323 t326 t329 _ _ x316003_10 true _ ?side1 ?side2 A39.out).mono ?_); (case side1 => refine (Kd.R_reads' (e := 9) (base := w.heap.size) (ok := fun k_ => some k_ ≠ (.slice (some ad322) t319.length co26 : Value).ownBlock) (n := x316003_10.length) (c := co43) ?_).2.2; exact (zR (Kd.R_mono (Kd.R_far (p := ⟨gb315, 2, none⟩) (Kd.R_far (p := ⟨gb315, 1, none⟩) (Kd.R_far (p := ⟨gb315, 0, none⟩) (Kd.R_types HO_316003.out BK315.out (by decide)) (fun _ hk => hk.2) (.int .i64 t323)) (fun _ hk => hk.2) (.int .i64 t326)) (fun _ hk => hk.2) (.int .i64 t329)) (fun _ h_ => h_.1)))); (case side2 => exact (Kd.R_reads' HO_316003.out).2.1); rintro e w44 ⟨rfl, hb⟩; replace HO_6 := zA (Kd.R_below (zR (Kd.R_mono (Kd.R_far (p := ⟨gb315, 2, none⟩) (Kd.R_far (p := ⟨gb315, 1, none⟩) (Kd.R_far (p := ⟨gb315, 0, none⟩) (Kd.R_types HO_6.out BK315.out (by decide)) (fun _ hk => hk.2) (.int .i64 t323)) (fun _ hk => hk.2) (.int .i64 t326)) (fun _ hk => hk.2) (.int .i64 t329)) (fun _ h_ => h_.1))) hb); replace HO_316003 := zA (Kd.R_below (zR (Kd.R_mono (Kd.R_far (p := ⟨gb315, 2, none⟩) (Kd.R_far (p := ⟨gb315, 1, none⟩) (Kd.R_far (p := ⟨gb315, 0, none⟩) (Kd.R_types HO_316003.out BK315.out (by decide)) (fun _ hk => hk.2) (.int .i64 t323)) (fun _ hk => hk.2) (.int .i64 t326)) (fun _ hk => hk.2) (.int .i64 t329)) (fun _ h_ => h_.1))) hb); replace BK314 := zb BK314 hb; replace BK315 := zA (blk_below (g := gb315) (o := .cells #[.int .i64 t323, .int .i64 t326, .int .i64 t329, .slice Ao43 x316003_10.length co43] 26 (0, 0)) (by (with_reducible repeat (first | refine blk_drewN ?_ _ | refine blk_drew ?_ | refine blk_alloc ?_ _)); refine blk_put (cs := #[.int .i64 t323, .int .i64 t326, .int .i64 0, .slice Ao43 x316003_10.length co43]) ?_ 2 _ rfl; (with_reducible repeat (first | refine blk_drewN ?_ _ | refine blk_drew ?_ | refine blk_alloc ?_ _)); refine blk_put (cs := #[.int .i64 t323, .int .i64 0, .int .i64 0, .slice Ao43 x316003_10.length co43]) ?_ 1 _ rfl; (with_reducible repeat (first | refine blk_drewN ?_ _ | refine blk_drew ?_ | refine blk_alloc ?_ _)); refine blk_put (cs := #[.int .i64 0, .int .i64 0, .int .i64 0, .slice Ao43 x316003_10.length co43]) ?_ 0 _ rfl; (with_reducible repeat (first | refine blk_drewN ?_ _ | refine blk_drew ?_ | refine blk_alloc ?_ _)); exact BK315.out) hb); replace HB := zh HB hb; (try clear hb); obtain ⟨hcz45_0, hcz45_1, hcz45_2, hcz45_3, hfz45_0, hfz45_1, hfz45_2, hfz45_3⟩ := ze4 BK315.out; obtain ⟨hcz46_0, hcz46_1, hcz46_2, hcz46_3, hfz46_0, hfz46_1, hfz46_2, hfz46_3⟩ := ze4 BK314.out))
                refine bodyPost_ret (results_ct rfl _ _ gb314 26 #[.int .i64 t323, .int .i64 t326, .int .i64 t329, .slice Ao43 x316003_10.length co43] (0, 0) _ rfl (by (with_reducible repeat (first | refine blk_drewN ?_ _ | refine blk_drew ?_ | refine blk_alloc ?_ _)); refine blk_put (cs := #[.int .i64 t323, .int .i64 t326, .int .i64 t329, .slice none 0 0]) ?_ 3 _ rfl; (with_reducible repeat (first | refine blk_drewN ?_ _ | refine blk_drew ?_ | refine blk_alloc ?_ _)); refine blk_put (cs := #[.int .i64 t323, .int .i64 t326, .int .i64 x315002_23, .slice none 0 0]) ?_ 2 _ rfl; (with_reducible repeat (first | refine blk_drewN ?_ _ | refine blk_drew ?_ | refine blk_alloc ?_ _)); refine blk_put (cs := #[.int .i64 t323, .int .i64 x315001_23, .int .i64 x315002_23, .slice none 0 0]) ?_ 1 _ rfl; (with_reducible repeat (first | refine blk_drewN ?_ _ | refine blk_drew ?_ | refine blk_alloc ?_ _)); refine blk_put (cs := #[.int .i64 x315000_23, .int .i64 x315001_23, .int .i64 x315002_23, .slice none 0 0]) ?_ 0 _ rfl; (with_reducible repeat (first | refine blk_drewN ?_ _ | refine blk_drew ?_ | refine blk_alloc ?_ _)); exact BK314.out) Tryd.underlying26 rfl (by kernel_rfl)) rfl ?_
                exact ⟨_, zE, by (with_reducible repeat (first | apply Kd.R_alloc | apply Kd.R_drewN | apply Kd.R_drew)); exact Kd.R_mono (Kd.R_far (p := ⟨gb314, 3, none⟩) (Kd.R_far (p := ⟨gb314, 2, none⟩) (Kd.R_far (p := ⟨gb314, 1, none⟩) (Kd.R_far (p := ⟨gb314, 0, none⟩) (Kd.R_types HO_316003.out BK314.out (by decide)) (fun _ hk => hk.2) (.int .i64 t323)) (fun _ hk => hk.2) (.int .i64 t326)) (fun _ hk => hk.2) (.int .i64 t329)) (fun _ hk => hk.2) (.slice Ao43 x316003_10.length co43)) (fun _ hk => trivial), zW HB.out⟩
               ·replace c40 := Bool.eq_false_iff.mpr c40
                subst c40
                rw [if_neg zFT] at H
                simp only [Option.some.injEq, Prod.mk.injEq] at H
                obtain ⟨rfl, rfl, rfl, rfl, rfl⟩ := H
                have p322 : 0 ≤ (0 : Int) := (by omega)
                have q322 : 0 < (t319.length : Int) := zD
                obtain ⟨ad322, e322, hx322_0⟩ := Kd.at_string (Kd.R_reads' HO_6.out).2.2 0 p322 q322
                cases e322
                have qi322 : (0 < t319.length) = True := eq_true (by omega)
                (try rw [show ((0 : Int)).toNat = 0 from rfl] at hx322_0)
                (try rw [Addr.add_zero'] at hx322_0)
                replace p322 := eq_true p322
                replace q322 := eq_true q322
                go_wp2_with (first | ((with_reducible refine zq 38 ?_); refine zg (some 48) Tryd.func38 #[.string (rdOf ByteArray.empty t319 0), .int .i64 9999] ?_; (with_reducible refine (spec_ParseNum.calls kj23 (rdOf ByteArray.empty t319 0) 9999 t323 true _ A31.out).mono ?_); rintro e w' ⟨rfl, ⟨nd, rfl⟩⟩; refine ⟨_, rfl, ?_⟩; (try (rw [drewN_self wc]; generalize hq_ : World.drewN wc _ = wc; have n0_ : Aside0 (Kd.R Kd.string 9 wc w.heap.size (fun k_ => some k_ ≠ (.slice (some ad322) t319.length co26 : Value).ownBlock) u316003 x316003_10) := ⟨by rw [← hq_]; exact (zR HO_316003.out)⟩; have n1_ : Aside0 (Kd.R Kd.string 9 wc w.heap.size (fun k_ => some k_ ≠ (u316003 : Value).ownBlock) (.slice (some ad322) t319.length co26) t319) := ⟨by rw [← hq_]; exact (zR HO_6.out)⟩; have n2_ : Aside0 (wc.heap[gb314]? = some (.cells #[.int .i64 x315000_23, .int .i64 x315001_23, .int .i64 x315002_23, .slice none 0 0] 26 (0, 0))) := ⟨by rw [← hq_]; exact (zK BK314.out)⟩; have n3_ : Aside0 (wc.heap[gb315]? = some (.cells #[.int .i64 0, .int .i64 0, .int .i64 0, u316003] 26 (0, 0))) := ⟨by rw [← hq_]; exact (zK BK315.out)⟩; have n4_ : Aside0 (Below w.heap.size w wc) := ⟨by rw [← hq_]; exact (zW HB.out)⟩; clear HO_316003 HO_6 BK314 BK315 HB hq_; have HO_316003 := n0_; have HO_6 := n1_; have BK314 := n2_; have BK315 := n3_; have HB := n4_; clear n0_ n1_ n2_ n3_ n4_)); have p325 : 0 ≤ (1 : Int) := (by omega); have q325 : 1 < (t319.length : Int) := zD; obtain ⟨ad325, e325, hx325_0⟩ := Kd.at_string (Kd.R_reads' HO_6.out).2.2 1 p325 q325; obtain rfl : ad322 = ad325 := (by injection e325); (try simp only [show (1 : Int).toNat = 1 from rfl, Nat.reduceMul, Nat.reduceEqDiff, Go.Addr.add, ↓reduceIte] at hx325_0); have qi325 : (1 < t319.length) = True := eq_true (by omega); (try rw [show ((1 : Int)).toNat = 1 from rfl] at hx325_0); replace p325 := eq_true p325; replace q325 := eq_true q325) | ((with_reducible refine zq 38 ?_); refine zg (some 55) Tryd.func38 #[.string (rdOf ByteArray.empty t319 1), .int .i64 9999] ?_; (with_reducible refine (spec_ParseNum.calls kj23 (rdOf ByteArray.empty t319 1) 9999 t326 true _ A33.out).mono ?_); rintro e w' ⟨rfl, ⟨nd, rfl⟩⟩; refine ⟨_, rfl, ?_⟩; (try (rw [drewN_self wc]; generalize hq_ : World.drewN wc _ = wc; have n0_ : Aside0 (Kd.R Kd.string 9 wc w.heap.size (fun k_ => some k_ ≠ (.slice (some ad322) t319.length co26 : Value).ownBlock) u316003 x316003_10) := ⟨by rw [← hq_]; exact (zR HO_316003.out)⟩; have n1_ : Aside0 (Kd.R Kd.string 9 wc w.heap.size (fun k_ => some k_ ≠ (u316003 : Value).ownBlock) (.slice (some ad322) t319.length co26) t319) := ⟨by rw [← hq_]; exact (zR HO_6.out)⟩; have n2_ : Aside0 (wc.heap[gb314]? = some (.cells #[.int .i64 x315000_23, .int .i64 x315001_23, .int .i64 x315002_23, .slice none 0 0] 26 (0, 0))) := ⟨by rw [← hq_]; exact (zK BK314.out)⟩; have n3_ : Aside0 (wc.heap[gb315]? = some (.cells #[.int .i64 0, .int .i64 0, .int .i64 0, u316003] 26 (0, 0))) := ⟨by rw [← hq_]; exact (zK BK315.out)⟩; have n4_ : Aside0 (Below w.heap.size w wc) := ⟨by rw [← hq_]; exact (zW HB.out)⟩; clear HO_316003 HO_6 BK314 BK315 HB hq_; have HO_316003 := n0_; have HO_6 := n1_; have BK314 := n2_; have BK315 := n3_; have HB := n4_; clear n0_ n1_ n2_ n3_ n4_)); have p328 : 0 ≤ (2 : Int) := (by omega); have q328 : 2 < (t319.length : Int) := zD; obtain ⟨ad328, e328, hx328_0⟩ := Kd.at_string (Kd.R_reads' HO_6.out).2.2 2 p328 q328; obtain rfl : ad322 = ad328 := (by injection e328); (try simp only [show (2 : Int).toNat = 2 from rfl, Nat.reduceMul, Nat.reduceEqDiff, Go.Addr.add, ↓reduceIte] at hx328_0); have qi328 : (2 < t319.length) = True := eq_true (by omega); (try rw [show ((2 : Int)).toNat = 2 from rfl] at hx328_0); replace p328 := eq_true p328; replace q328 := eq_true q328) | ((with_reducible refine zq 38 ?_); refine zg (some 62) Tryd.func38 #[.string (rdOf ByteArray.empty t319 2), .int .i64 9999] ?_; (with_reducible refine (spec_ParseNum.calls kj23 (rdOf ByteArray.empty t319 2) 9999 t329 true _ A35.out).mono ?_); rintro e w' ⟨rfl, ⟨nd, rfl⟩⟩; refine ⟨_, rfl, ?_⟩; (try (rw [drewN_self wc]; generalize hq_ : World.drewN wc _ = wc; have n0_ : Aside0 (Kd.R Kd.string 9 wc w.heap.size (fun k_ => some k_ ≠ (.slice (some ad322) t319.length co26 : Value).ownBlock) u316003 x316003_10) := ⟨by rw [← hq_]; exact (zR HO_316003.out)⟩; have n1_ : Aside0 (Kd.R Kd.string 9 wc w.heap.size (fun k_ => some k_ ≠ (u316003 : Value).ownBlock) (.slice (some ad322) t319.length co26) t319) := ⟨by rw [← hq_]; exact (zR HO_6.out)⟩; have n2_ : Aside0 (wc.heap[gb314]? = some (.cells #[.int .i64 x315000_23, .int .i64 x315001_23, .int .i64 x315002_23, .slice none 0 0] 26 (0, 0))) := ⟨by rw [← hq_]; exact (zK BK314.out)⟩; have n3_ : Aside0 (wc.heap[gb315]? = some (.cells #[.int .i64 0, .int .i64 0, .int .i64 0, u316003] 26 (0, 0))) := ⟨by rw [← hq_]; exact (zK BK315.out)⟩; have n4_ : Aside0 (Below w.heap.size w wc) := ⟨by rw [← hq_]; exact (zW HB.out)⟩; clear HO_316003 HO_6 BK314 BK315 HB hq_; have HO_316003 := n0_; have HO_6 := n1_; have BK314 := n2_; have BK315 := n3_; have HB := n4_; clear n0_ n1_ n2_ n3_ n4_)); have hnb47 := NB315_314.out; have hnc47 := NB314_315.out; obtain ⟨hcz48_0, hcz48_1, hcz48_2, hcz48_3, hfz48_0, hfz48_1, hfz48_2, hfz48_3⟩ := ze4 BK315.out; obtain ⟨Ao49, co49, eo49⟩ := Kd.R_slice HO_316003.out; subst eo49) | (go_at_call 15; (with_reducible refine (spec_VerOk.calls kj23 t323 t326 t329 _ _ x316003_10 false _ ?side1 ?side2 A39.out).mono ?_); (case side1 => refine (Kd.R_reads' (e := 9) (base := w.heap.size) (ok := fun k_ => some k_ ≠ (.slice (some ad322) t319.length co26 : Value).ownBlock) (n := x316003_10.length) (c := co49) ?_).2.2; exact (zR (Kd.R_mono (Kd.R_far (p := ⟨gb315, 2, none⟩) (Kd.R_far (p := ⟨gb315, 1, none⟩) (Kd.R_far (p := ⟨gb315, 0, none⟩) (Kd.R_types HO_316003.out BK315.out (by decide)) (fun _ hk => hk.2) (.int .i64 t323)) (fun _ hk => hk.2) (.int .i64 t326)) (fun _ hk => hk.2) (.int .i64 t329)) (fun _ h_ => h_.1)))); (case side2 => exact (Kd.R_reads' HO_316003.out).2.1); rintro e w50 ⟨rfl, hb⟩; replace HO_6 := zA (Kd.R_below (zR (Kd.R_mono (Kd.R_far (p := ⟨gb315, 2, none⟩) (Kd.R_far (p := ⟨gb315, 1, none⟩) (Kd.R_far (p := ⟨gb315, 0, none⟩) (Kd.R_types HO_6.out BK315.out (by decide)) (fun _ hk => hk.2) (.int .i64 t323)) (fun _ hk => hk.2) (.int .i64 t326)) (fun _ hk => hk.2) (.int .i64 t329)) (fun _ h_ => h_.1))) hb); replace HO_316003 := zA (Kd.R_below (zR (Kd.R_mono (Kd.R_far (p := ⟨gb315, 2, none⟩) (Kd.R_far (p := ⟨gb315, 1, none⟩) (Kd.R_far (p := ⟨gb315, 0, none⟩) (Kd.R_types HO_316003.out BK315.out (by decide)) (fun _ hk => hk.2) (.int .i64 t323)) (fun _ hk => hk.2) (.int .i64 t326)) (fun _ hk => hk.2) (.int .i64 t329)) (fun _ h_ => h_.1))) hb); replace BK314 := zb BK314 hb; replace BK315 := zA (blk_below (g := gb315) (o := .cells #[.int .i64 t323, .int .i64 t326, .int .i64 t329, .slice Ao49 x316003_10.length co49] 26 (0, 0)) (by (with_reducible repeat (first | refine blk_drewN ?_ _ | refine blk_drew ?_ | refine blk_alloc ?_ _)); refine blk_put (cs := #[.int .i64 t323, .int .i64 t326, .int .i64 0, .slice Ao49 x316003_10.length co49]) ?_ 2 _ rfl; (with_reducible repeat (first | refine blk_drewN ?_ _ | refine blk_drew ?_ | refine blk_alloc ?_ _)); refine blk_put (cs := #[.int .i64 t323, .int .i64 0, .int .i64 0, .slice Ao49 x316003_10.length co49]) ?_ 1 _ rfl; (with_reducible repeat (first | refine blk_drewN ?_ _ | refine blk_drew ?_ | refine blk_alloc ?_ _)); refine blk_put (cs := #[.int .i64 0, .int .i64 0, .int .i64 0, .slice Ao49 x316003_10.length co49]) ?_ 0 _ rfl; (with_reducible repeat (first | refine blk_drewN ?_ _ | refine blk_drew ?_ | refine blk_alloc ?_ _)); exact BK315.out) hb); replace HB := zh HB hb; (try clear hb); obtain ⟨hcz51_0, hcz51_1, hcz51_2, hcz51_3, hfz51_0, hfz51_1, hfz51_2, hfz51_3⟩ := ze4 BK314.out))
                refine bodyPost_ret (results_ct rfl _ _ gb314 26 #[.int .i64 0, .int .i64 0, .int .i64 0, .slice none 0 0] (0, 0) _ rfl (by (with_reducible repeat (first | refine blk_drewN ?_ _ | refine blk_drew ?_ | refine blk_alloc ?_ _)); refine blk_put (cs := #[.int .i64 0, .int .i64 0, .int .i64 0, .slice none 0 0]) ?_ 3 _ rfl; (with_reducible repeat (first | refine blk_drewN ?_ _ | refine blk_drew ?_ | refine blk_alloc ?_ _)); refine blk_put (cs := #[.int .i64 0, .int .i64 0, .int .i64 x315002_23, .slice none 0 0]) ?_ 2 _ rfl; (with_reducible repeat (first | refine blk_drewN ?_ _ | refine blk_drew ?_ | refine blk_alloc ?_ _)); refine blk_put (cs := #[.int .i64 0, .int .i64 x315001_23, .int .i64 x315002_23, .slice none 0 0]) ?_ 1 _ rfl; (with_reducible repeat (first | refine blk_drewN ?_ _ | refine blk_drew ?_ | refine blk_alloc ?_ _)); refine blk_put (cs := #[.int .i64 x315000_23, .int .i64 x315001_23, .int .i64 x315002_23, .slice none 0 0]) ?_ 0 _ rfl; (with_reducible repeat (first | refine blk_drewN ?_ _ | refine blk_drew ?_ | refine blk_alloc ?_ _)); exact BK314.out) Tryd.underlying26 rfl (by kernel_rfl)) rfl ?_
                exact ⟨_, zE, by first | exact Kd.R_nil _ _ _ _ _ | exact Kd.N_nil _ _ _ _ _ | exact Kd.V_nil _ _ _ _ _ | exact Kd.Q_nil _ _ _ _ _ | exact Kd.S_nil _ _ _ _ _, zW HB.out⟩
              ·replace c38 := Bool.eq_false_iff.mpr c38
               subst c38
               rw [if_neg zFT] at H
               simp only [Option.some.injEq, Prod.mk.injEq] at H
               obtain ⟨rfl, rfl, rfl, rfl, rfl⟩ := H
               have p322 : 0 ≤ (0 : Int) := (by omega)
               have q322 : 0 < (t319.length : Int) := zD
               obtain ⟨ad322, e322, hx322_0⟩ := Kd.at_string (Kd.R_reads' HO_6.out).2.2 0 p322 q322
               cases e322
               have qi322 : (0 < t319.length) = True := eq_true (by omega)
               (try rw [show ((0 : Int)).toNat = 0 from rfl] at hx322_0)
               (try rw [Addr.add_zero'] at hx322_0)
               replace p322 := eq_true p322
               replace q322 := eq_true q322
               go_wp2_with (first | ((with_reducible refine zq 38 ?_); refine zg (some 48) Tryd.func38 #[.string (rdOf ByteArray.empty t319 0), .int .i64 9999] ?_; (with_reducible refine (spec_ParseNum.calls kj23 (rdOf ByteArray.empty t319 0) 9999 t323 true _ A31.out).mono ?_); rintro e w' ⟨rfl, ⟨nd, rfl⟩⟩; refine ⟨_, rfl, ?_⟩; (try (rw [drewN_self wc]; generalize hq_ : World.drewN wc _ = wc; have n0_ : Aside0 (Kd.R Kd.string 9 wc w.heap.size (fun k_ => some k_ ≠ (.slice (some ad322) t319.length co26 : Value).ownBlock) u316003 x316003_10) := ⟨by rw [← hq_]; exact (zR HO_316003.out)⟩; have n1_ : Aside0 (Kd.R Kd.string 9 wc w.heap.size (fun k_ => some k_ ≠ (u316003 : Value).ownBlock) (.slice (some ad322) t319.length co26) t319) := ⟨by rw [← hq_]; exact (zR HO_6.out)⟩; have n2_ : Aside0 (wc.heap[gb314]? = some (.cells #[.int .i64 x315000_23, .int .i64 x315001_23, .int .i64 x315002_23, .slice none 0 0] 26 (0, 0))) := ⟨by rw [← hq_]; exact (zK BK314.out)⟩; have n3_ : Aside0 (wc.heap[gb315]? = some (.cells #[.int .i64 0, .int .i64 0, .int .i64 0, u316003] 26 (0, 0))) := ⟨by rw [← hq_]; exact (zK BK315.out)⟩; have n4_ : Aside0 (Below w.heap.size w wc) := ⟨by rw [← hq_]; exact (zW HB.out)⟩; clear HO_316003 HO_6 BK314 BK315 HB hq_; have HO_316003 := n0_; have HO_6 := n1_; have BK314 := n2_; have BK315 := n3_; have HB := n4_; clear n0_ n1_ n2_ n3_ n4_)); have p325 : 0 ≤ (1 : Int) := (by omega); have q325 : 1 < (t319.length : Int) := zD; obtain ⟨ad325, e325, hx325_0⟩ := Kd.at_string (Kd.R_reads' HO_6.out).2.2 1 p325 q325; obtain rfl : ad322 = ad325 := (by injection e325); (try simp only [show (1 : Int).toNat = 1 from rfl, Nat.reduceMul, Nat.reduceEqDiff, Go.Addr.add, ↓reduceIte] at hx325_0); have qi325 : (1 < t319.length) = True := eq_true (by omega); (try rw [show ((1 : Int)).toNat = 1 from rfl] at hx325_0); replace p325 := eq_true p325; replace q325 := eq_true q325) | ((with_reducible refine zq 38 ?_); refine zg (some 55) Tryd.func38 #[.string (rdOf ByteArray.empty t319 1), .int .i64 9999] ?_; (with_reducible refine (spec_ParseNum.calls kj23 (rdOf ByteArray.empty t319 1) 9999 t326 true _ A33.out).mono ?_); rintro e w' ⟨rfl, ⟨nd, rfl⟩⟩; refine ⟨_, rfl, ?_⟩; (try (rw [drewN_self wc]; generalize hq_ : World.drewN wc _ = wc; have n0_ : Aside0 (Kd.R Kd.string 9 wc w.heap.size (fun k_ => some k_ ≠ (.slice (some ad322) t319.length co26 : Value).ownBlock) u316003 x316003_10) := ⟨by rw [← hq_]; exact (zR HO_316003.out)⟩; have n1_ : Aside0 (Kd.R Kd.string 9 wc w.heap.size (fun k_ => some k_ ≠ (u316003 : Value).ownBlock) (.slice (some ad322) t319.length co26) t319) := ⟨by rw [← hq_]; exact (zR HO_6.out)⟩; have n2_ : Aside0 (wc.heap[gb314]? = some (.cells #[.int .i64 x315000_23, .int .i64 x315001_23, .int .i64 x315002_23, .slice none 0 0] 26 (0, 0))) := ⟨by rw [← hq_]; exact (zK BK314.out)⟩; have n3_ : Aside0 (wc.heap[gb315]? = some (.cells #[.int .i64 0, .int .i64 0, .int .i64 0, u316003] 26 (0, 0))) := ⟨by rw [← hq_]; exact (zK BK315.out)⟩; have n4_ : Aside0 (Below w.heap.size w wc) := ⟨by rw [← hq_]; exact (zW HB.out)⟩; clear HO_316003 HO_6 BK314 BK315 HB hq_; have HO_316003 := n0_; have HO_6 := n1_; have BK314 := n2_; have BK315 := n3_; have HB := n4_; clear n0_ n1_ n2_ n3_ n4_)); have p328 : 0 ≤ (2 : Int) := (by omega); have q328 : 2 < (t319.length : Int) := zD; obtain ⟨ad328, e328, hx328_0⟩ := Kd.at_string (Kd.R_reads' HO_6.out).2.2 2 p328 q328; obtain rfl : ad322 = ad328 := (by injection e328); (try simp only [show (2 : Int).toNat = 2 from rfl, Nat.reduceMul, Nat.reduceEqDiff, Go.Addr.add, ↓reduceIte] at hx328_0); have qi328 : (2 < t319.length) = True := eq_true (by omega); (try rw [show ((2 : Int)).toNat = 2 from rfl] at hx328_0); replace p328 := eq_true p328; replace q328 := eq_true q328) | ((with_reducible refine zq 38 ?_); refine zg (some 62) Tryd.func38 #[.string (rdOf ByteArray.empty t319 2), .int .i64 9999] ?_; (with_reducible refine (spec_ParseNum.calls kj23 (rdOf ByteArray.empty t319 2) 9999 t329 false _ A35.out).mono ?_); rintro e w' ⟨rfl, ⟨nd, rfl⟩⟩; refine ⟨_, rfl, ?_⟩; (try (rw [drewN_self wc]; generalize hq_ : World.drewN wc _ = wc; have n0_ : Aside0 (Kd.R Kd.string 9 wc w.heap.size (fun k_ => some k_ ≠ (.slice (some ad322) t319.length co26 : Value).ownBlock) u316003 x316003_10) := ⟨by rw [← hq_]; exact (zR HO_316003.out)⟩; have n1_ : Aside0 (Kd.R Kd.string 9 wc w.heap.size (fun k_ => some k_ ≠ (u316003 : Value).ownBlock) (.slice (some ad322) t319.length co26) t319) := ⟨by rw [← hq_]; exact (zR HO_6.out)⟩; have n2_ : Aside0 (wc.heap[gb314]? = some (.cells #[.int .i64 x315000_23, .int .i64 x315001_23, .int .i64 x315002_23, .slice none 0 0] 26 (0, 0))) := ⟨by rw [← hq_]; exact (zK BK314.out)⟩; have n3_ : Aside0 (wc.heap[gb315]? = some (.cells #[.int .i64 0, .int .i64 0, .int .i64 0, u316003] 26 (0, 0))) := ⟨by rw [← hq_]; exact (zK BK315.out)⟩; have n4_ : Aside0 (Below w.heap.size w wc) := ⟨by rw [← hq_]; exact (zW HB.out)⟩; clear HO_316003 HO_6 BK314 BK315 HB hq_; have HO_316003 := n0_; have HO_6 := n1_; have BK314 := n2_; have BK315 := n3_; have HB := n4_; clear n0_ n1_ n2_ n3_ n4_)); have hnb52 := NB315_314.out; have hnc52 := NB314_315.out; obtain ⟨hcz53_0, hcz53_1, hcz53_2, hcz53_3, hfz53_0, hfz53_1, hfz53_2, hfz53_3⟩ := ze4 BK315.out; obtain ⟨hcz54_0, hcz54_1, hcz54_2, hcz54_3, hfz54_0, hfz54_1, hfz54_2, hfz54_3⟩ := ze4 BK314.out))
               refine bodyPost_ret (results_ct rfl _ _ gb314 26 #[.int .i64 0, .int .i64 0, .int .i64 0, .slice none 0 0] (0, 0) _ rfl (by (with_reducible repeat (first | refine blk_drewN ?_ _ | refine blk_drew ?_ | refine blk_alloc ?_ _)); refine blk_put (cs := #[.int .i64 0, .int .i64 0, .int .i64 0, .slice none 0 0]) ?_ 3 _ rfl; (with_reducible repeat (first | refine blk_drewN ?_ _ | refine blk_drew ?_ | refine blk_alloc ?_ _)); refine blk_put (cs := #[.int .i64 0, .int .i64 0, .int .i64 x315002_23, .slice none 0 0]) ?_ 2 _ rfl; (with_reducible repeat (first | refine blk_drewN ?_ _ | refine blk_drew ?_ | refine blk_alloc ?_ _)); refine blk_put (cs := #[.int .i64 0, .int .i64 x315001_23, .int .i64 x315002_23, .slice none 0 0]) ?_ 1 _ rfl; (with_reducible repeat (first | refine blk_drewN ?_ _ | refine blk_drew ?_ | refine blk_alloc ?_ _)); refine blk_put (cs := #[.int .i64 x315000_23, .int .i64 x315001_23, .int .i64 x315002_23, .slice none 0 0]) ?_ 0 _ rfl; (with_reducible repeat (first | refine blk_drewN ?_ _ | refine blk_drew ?_ | refine blk_alloc ?_ _)); refine blk_far ?_ NB314_315.out _; (with_reducible repeat (first | refine blk_drewN ?_ _ | refine blk_drew ?_ | refine blk_alloc ?_ _)); refine blk_far ?_ NB314_315.out _; (with_reducible repeat (first | refine blk_drewN ?_ _ | refine blk_drew ?_ | refine blk_alloc ?_ _)); refine blk_far ?_ NB314_315.out _; (with_reducible repeat (first | refine blk_drewN ?_ _ | refine blk_drew ?_ | refine blk_alloc ?_ _)); exact BK314.out) Tryd.underlying26 rfl (by kernel_rfl)) rfl ?_
               exact ⟨_, zE, by first | exact Kd.R_nil _ _ _ _ _ | exact Kd.N_nil _ _ _ _ _ | exact Kd.V_nil _ _ _ _ _ | exact Kd.Q_nil _ _ _ _ _ | exact Kd.S_nil _ _ _ _ _, zW HB.out⟩
             ·replace c37 := Bool.eq_false_iff.mpr c37
              subst c37
              rw [if_neg zFT] at H
              simp only [Option.some.injEq, Prod.mk.injEq] at H
              obtain ⟨rfl, rfl, rfl, rfl, rfl⟩ := H
              have p322 : 0 ≤ (0 : Int) := (by omega)
              have q322 : 0 < (t319.length : Int) := zD
              obtain ⟨ad322, e322, hx322_0⟩ := Kd.at_string (Kd.R_reads' HO_6.out).2.2 0 p322 q322
              cases e322
              have qi322 : (0 < t319.length) = True := eq_true (by omega)
              (try rw [show ((0 : Int)).toNat = 0 from rfl] at hx322_0)
              (try rw [Addr.add_zero'] at hx322_0)
              replace p322 := eq_true p322
              replace q322 := eq_true q322
              go_wp2_with (first | ((with_reducible refine zq 38 ?_); refine zg (some 48) Tryd.func38 #[.string (rdOf ByteArray.empty t319 0), .int .i64 9999] ?_; (with_reducible refine (spec_ParseNum.calls kj23 (rdOf ByteArray.empty t319 0) 9999 t323 true _ A31.out).mono ?_); rintro e w' ⟨rfl, ⟨nd, rfl⟩⟩; refine ⟨_, rfl, ?_⟩; (try (rw [drewN_self wc]; generalize hq_ : World.drewN wc _ = wc; have n0_ : Aside0 (Kd.R Kd.string 9 wc w.heap.size (fun k_ => some k_ ≠ (.slice (some ad322) t319.length co26 : Value).ownBlock) u316003 x316003_10) := ⟨by rw [← hq_]; exact (zR HO_316003.out)⟩; have n1_ : Aside0 (Kd.R Kd.string 9 wc w.heap.size (fun k_ => some k_ ≠ (u316003 : Value).ownBlock) (.slice (some ad322) t319.length co26) t319) := ⟨by rw [← hq_]; exact (zR HO_6.out)⟩; have n2_ : Aside0 (wc.heap[gb314]? = some (.cells #[.int .i64 x315000_23, .int .i64 x315001_23, .int .i64 x315002_23, .slice none 0 0] 26 (0, 0))) := ⟨by rw [← hq_]; exact (zK BK314.out)⟩; have n3_ : Aside0 (wc.heap[gb315]? = some (.cells #[.int .i64 0, .int .i64 0, .int .i64 0, u316003] 26 (0, 0))) := ⟨by rw [← hq_]; exact (zK BK315.out)⟩; have n4_ : Aside0 (Below w.heap.size w wc) := ⟨by rw [← hq_]; exact (zW HB.out)⟩; clear HO_316003 HO_6 BK314 BK315 HB hq_; have HO_316003 := n0_; have HO_6 := n1_; have BK314 := n2_; have BK315 := n3_; have HB := n4_; clear n0_ n1_ n2_ n3_ n4_)); have p325 : 0 ≤ (1 : Int) := (by omega); have q325 : 1 < (t319.length : Int) := zD; obtain ⟨ad325, e325, hx325_0⟩ := Kd.at_string (Kd.R_reads' HO_6.out).2.2 1 p325 q325; obtain rfl : ad322 = ad325 := (by injection e325); (try simp only [show (1 : Int).toNat = 1 from rfl, Nat.reduceMul, Nat.reduceEqDiff, Go.Addr.add, ↓reduceIte] at hx325_0); have qi325 : (1 < t319.length) = True := eq_true (by omega); (try rw [show ((1 : Int)).toNat = 1 from rfl] at hx325_0); replace p325 := eq_true p325; replace q325 := eq_true q325) | ((with_reducible refine zq 38 ?_); refine zg (some 55) Tryd.func38 #[.string (rdOf ByteArray.empty t319 1), .int .i64 9999] ?_; (with_reducible refine (spec_ParseNum.calls kj23 (rdOf ByteArray.empty t319 1) 9999 t326 false _ A33.out).mono ?_); rintro e w' ⟨rfl, ⟨nd, rfl⟩⟩; refine ⟨_, rfl, ?_⟩; (try (rw [drewN_self wc]; generalize hq_ : World.drewN wc _ = wc; have n0_ : Aside0 (Kd.R Kd.string 9 wc w.heap.size (fun k_ => some k_ ≠ (.slice (some ad322) t319.length co26 : Value).ownBlock) u316003 x316003_10) := ⟨by rw [← hq_]; exact (zR HO_316003.out)⟩; have n1_ : Aside0 (Kd.R Kd.string 9 wc w.heap.size (fun k_ => some k_ ≠ (u316003 : Value).ownBlock) (.slice (some ad322) t319.length co26) t319) := ⟨by rw [← hq_]; exact (zR HO_6.out)⟩; have n2_ : Aside0 (wc.heap[gb314]? = some (.cells #[.int .i64 x315000_23, .int .i64 x315001_23, .int .i64 x315002_23, .slice none 0 0] 26 (0, 0))) := ⟨by rw [← hq_]; exact (zK BK314.out)⟩; have n3_ : Aside0 (wc.heap[gb315]? = some (.cells #[.int .i64 0, .int .i64 0, .int .i64 0, u316003] 26 (0, 0))) := ⟨by rw [← hq_]; exact (zK BK315.out)⟩; have n4_ : Aside0 (Below w.heap.size w wc) := ⟨by rw [← hq_]; exact (zW HB.out)⟩; clear HO_316003 HO_6 BK314 BK315 HB hq_; have HO_316003 := n0_; have HO_6 := n1_; have BK314 := n2_; have BK315 := n3_; have HB := n4_; clear n0_ n1_ n2_ n3_ n4_)); have p328 : 0 ≤ (2 : Int) := (by omega); have q328 : 2 < (t319.length : Int) := zD; obtain ⟨ad328, e328, hx328_0⟩ := Kd.at_string (Kd.R_reads' HO_6.out).2.2 2 p328 q328; obtain rfl : ad322 = ad328 := (by injection e328); (try simp only [show (2 : Int).toNat = 2 from rfl, Nat.reduceMul, Nat.reduceEqDiff, Go.Addr.add, ↓reduceIte] at hx328_0); have qi328 : (2 < t319.length) = True := eq_true (by omega); (try rw [show ((2 : Int)).toNat = 2 from rfl] at hx328_0); replace p328 := eq_true p328; replace q328 := eq_true q328) | ((with_reducible refine zq 38 ?_); refine zg (some 62) Tryd.func38 #[.string (rdOf ByteArray.empty t319 2), .int .i64 9999] ?_; (with_reducible refine (spec_ParseNum.calls kj23 (rdOf ByteArray.empty t319 2) 9999 t329 t330 _ A35.out).mono ?_); rintro e w' ⟨rfl, ⟨nd, rfl⟩⟩; refine ⟨_, rfl, ?_⟩; (try (rw [drewN_self wc]; generalize hq_ : World.drewN wc _ = wc; have n0_ : Aside0 (Kd.R Kd.string 9 wc w.heap.size (fun k_ => some k_ ≠ (.slice (some ad322) t319.length co26 : Value).ownBlock) u316003 x316003_10) := ⟨by rw [← hq_]; exact (zR HO_316003.out)⟩; have n1_ : Aside0 (Kd.R Kd.string 9 wc w.heap.size (fun k_ => some k_ ≠ (u316003 : Value).ownBlock) (.slice (some ad322) t319.length co26) t319) := ⟨by rw [← hq_]; exact (zR HO_6.out)⟩; have n2_ : Aside0 (wc.heap[gb314]? = some (.cells #[.int .i64 x315000_23, .int .i64 x315001_23, .int .i64 x315002_23, .slice none 0 0] 26 (0, 0))) := ⟨by rw [← hq_]; exact (zK BK314.out)⟩; have n3_ : Aside0 (wc.heap[gb315]? = some (.cells #[.int .i64 0, .int .i64 0, .int .i64 0, u316003] 26 (0, 0))) := ⟨by rw [← hq_]; exact (zK BK315.out)⟩; have n4_ : Aside0 (Below w.heap.size w wc) := ⟨by rw [← hq_]; exact (zW HB.out)⟩; clear HO_316003 HO_6 BK314 BK315 HB hq_; have HO_316003 := n0_; have HO_6 := n1_; have BK314 := n2_; have BK315 := n3_; have HB := n4_; clear n0_ n1_ n2_ n3_ n4_)); have hnb55 := NB315_314.out; have hnc55 := NB314_315.out; obtain ⟨hcz56_0, hcz56_1, hcz56_2, hcz56_3, hfz56_0, hfz56_1, hfz56_2, hfz56_3⟩ := ze4 BK315.out; obtain ⟨hcz57_0, hcz57_1, hcz57_2, hcz57_3, hfz57_0, hfz57_1, hfz57_2, hfz57_3⟩ := ze4 BK314.out))
              refine bodyPost_ret (results_ct rfl _ _ gb314 26 #[.int .i64 0, .int .i64 0, .int .i64 0, .slice none 0 0] (0, 0) _ rfl (by (with_reducible repeat (first | refine blk_drewN ?_ _ | refine blk_drew ?_ | refine blk_alloc ?_ _)); refine blk_put (cs := #[.int .i64 0, .int .i64 0, .int .i64 0, .slice none 0 0]) ?_ 3 _ rfl; (with_reducible repeat (first | refine blk_drewN ?_ _ | refine blk_drew ?_ | refine blk_alloc ?_ _)); refine blk_put (cs := #[.int .i64 0, .int .i64 0, .int .i64 x315002_23, .slice none 0 0]) ?_ 2 _ rfl; (with_reducible repeat (first | refine blk_drewN ?_ _ | refine blk_drew ?_ | refine blk_alloc ?_ _)); refine blk_put (cs := #[.int .i64 0, .int .i64 x315001_23, .int .i64 x315002_23, .slice none 0 0]) ?_ 1 _ rfl; (with_reducible repeat (first | refine blk_drewN ?_ _ | refine blk_drew ?_ | refine blk_alloc ?_ _)); refine blk_put (cs := #[.int .i64 x315000_23, .int .i64 x315001_23, .int .i64 x315002_23, .slice none 0 0]) ?_ 0 _ rfl; (with_reducible repeat (first | refine blk_drewN ?_ _ | refine blk_drew ?_ | refine blk_alloc ?_ _)); refine blk_far ?_ NB314_315.out _; (with_reducible repeat (first | refine blk_drewN ?_ _ | refine blk_drew ?_ | refine blk_alloc ?_ _)); refine blk_far ?_ NB314_315.out _; (with_reducible repeat (first | refine blk_drewN ?_ _ | refine blk_drew ?_ | refine blk_alloc ?_ _)); refine blk_far ?_ NB314_315.out _; (with_reducible repeat (first | refine blk_drewN ?_ _ | refine blk_drew ?_ | refine blk_alloc ?_ _)); exact BK314.out) Tryd.underlying26 rfl (by kernel_rfl)) rfl ?_
              exact ⟨_, zE, by first | exact Kd.R_nil _ _ _ _ _ | exact Kd.N_nil _ _ _ _ _ | exact Kd.V_nil _ _ _ _ _ | exact Kd.Q_nil _ _ _ _ _ | exact Kd.S_nil _ _ _ _ _, zW HB.out⟩
            ·replace c36 := Bool.eq_false_iff.mpr c36
             subst c36
             rw [if_neg zFT] at H
             simp only [Option.some.injEq, Prod.mk.injEq] at H
             obtain ⟨rfl, rfl, rfl, rfl, rfl⟩ := H
             have p322 : 0 ≤ (0 : Int) := (by omega)
             have q322 : 0 < (t319.length : Int) := zD
             obtain ⟨ad322, e322, hx322_0⟩ := Kd.at_string (Kd.R_reads' HO_6.out).2.2 0 p322 q322
             cases e322
             have qi322 : (0 < t319.length) = True := eq_true (by omega)
             (try rw [show ((0 : Int)).toNat = 0 from rfl] at hx322_0)
             (try rw [Addr.add_zero'] at hx322_0)
             replace p322 := eq_true p322
             replace q322 := eq_true q322
             go_wp2_with (first | ((with_reducible refine zq 38 ?_); refine zg (some 48) Tryd.func38 #[.string (rdOf ByteArray.empty t319 0), .int .i64 9999] ?_; (with_reducible refine (spec_ParseNum.calls kj23 (rdOf ByteArray.empty t319 0) 9999 t323 false _ A31.out).mono ?_); rintro e w' ⟨rfl, ⟨nd, rfl⟩⟩; refine ⟨_, rfl, ?_⟩; (try (rw [drewN_self wc]; generalize hq_ : World.drewN wc _ = wc; have n0_ : Aside0 (Kd.R Kd.string 9 wc w.heap.size (fun k_ => some k_ ≠ (.slice (some ad322) t319.length co26 : Value).ownBlock) u316003 x316003_10) := ⟨by rw [← hq_]; exact (zR HO_316003.out)⟩; have n1_ : Aside0 (Kd.R Kd.string 9 wc w.heap.size (fun k_ => some k_ ≠ (u316003 : Value).ownBlock) (.slice (some ad322) t319.length co26) t319) := ⟨by rw [← hq_]; exact (zR HO_6.out)⟩; have n2_ : Aside0 (wc.heap[gb314]? = some (.cells #[.int .i64 x315000_23, .int .i64 x315001_23, .int .i64 x315002_23, .slice none 0 0] 26 (0, 0))) := ⟨by rw [← hq_]; exact (zK BK314.out)⟩; have n3_ : Aside0 (wc.heap[gb315]? = some (.cells #[.int .i64 0, .int .i64 0, .int .i64 0, u316003] 26 (0, 0))) := ⟨by rw [← hq_]; exact (zK BK315.out)⟩; have n4_ : Aside0 (Below w.heap.size w wc) := ⟨by rw [← hq_]; exact (zW HB.out)⟩; clear HO_316003 HO_6 BK314 BK315 HB hq_; have HO_316003 := n0_; have HO_6 := n1_; have BK314 := n2_; have BK315 := n3_; have HB := n4_; clear n0_ n1_ n2_ n3_ n4_)); have p325 : 0 ≤ (1 : Int) := (by omega); have q325 : 1 < (t319.length : Int) := zD; obtain ⟨ad325, e325, hx325_0⟩ := Kd.at_string (Kd.R_reads' HO_6.out).2.2 1 p325 q325; obtain rfl : ad322 = ad325 := (by injection e325); (try simp only [show (1 : Int).toNat = 1 from rfl, Nat.reduceMul, Nat.reduceEqDiff, Go.Addr.add, ↓reduceIte] at hx325_0); have qi325 : (1 < t319.length) = True := eq_true (by omega); (try rw [show ((1 : Int)).toNat = 1 from rfl] at hx325_0); replace p325 := eq_true p325; replace q325 := eq_true q325) | ((with_reducible refine zq 38 ?_); refine zg (some 55) Tryd.func38 #[.string (rdOf ByteArray.empty t319 1), .int .i64 9999] ?_; (with_reducible refine (spec_ParseNum.calls kj23 (rdOf ByteArray.empty t319 1) 9999 t326 t327 _ A33.out).mono ?_); rintro e w' ⟨rfl, ⟨nd, rfl⟩⟩; refine ⟨_, rfl, ?_⟩; (try (rw [drewN_self wc]; generalize hq_ : World.drewN wc _ = wc; have n0_ : Aside0 (Kd.R Kd.string 9 wc w.heap.size (fun k_ => some k_ ≠ (.slice (some ad322) t319.length co26 : Value).ownBlock) u316003 x316003_10) := ⟨by rw [← hq_]; exact (zR HO_316003.out)⟩; have n1_ : Aside0 (Kd.R Kd.string 9 wc w.heap.size (fun k_ => some k_ ≠ (u316003 : Value).ownBlock) (.slice (some ad322) t319.length co26) t319) := ⟨by rw [← hq_]; exact (zR HO_6.out)⟩; have n2_ : Aside0 (wc.heap[gb314]? = some (.cells #[.int .i64 x315000_23, .int .i64 x315001_23, .int .i64 x315002_23, .slice none 0 0] 26 (0, 0))) := ⟨by rw [← hq_]; exact (zK BK314.out)⟩; have n3_ : Aside0 (wc.heap[gb315]? = some (.cells #[.int .i64 0, .int .i64 0, .int .i64 0, u316003] 26 (0, 0))) := ⟨by rw [← hq_]; exact (zK BK315.out)⟩; have n4_ : Aside0 (Below w.heap.size w wc) := ⟨by rw [← hq_]; exact (zW HB.out)⟩; clear HO_316003 HO_6 BK314 BK315 HB hq_; have HO_316003 := n0_; have HO_6 := n1_; have BK314 := n2_; have BK315 := n3_; have HB := n4_; clear n0_ n1_ n2_ n3_ n4_)); have p328 : 0 ≤ (2 : Int) := (by omega); have q328 : 2 < (t319.length : Int) := zD; obtain ⟨ad328, e328, hx328_0⟩ := Kd.at_string (Kd.R_reads' HO_6.out).2.2 2 p328 q328; obtain rfl : ad322 = ad328 := (by injection e328); (try simp only [show (2 : Int).toNat = 2 from rfl, Nat.reduceMul, Nat.reduceEqDiff, Go.Addr.add, ↓reduceIte] at hx328_0); have qi328 : (2 < t319.length) = True := eq_true (by omega); (try rw [show ((2 : Int)).toNat = 2 from rfl] at hx328_0); replace p328 := eq_true p328; replace q328 := eq_true q328) | ((with_reducible refine zq 38 ?_); refine zg (some 62) Tryd.func38 #[.string (rdOf ByteArray.empty t319 2), .int .i64 9999] ?_; (with_reducible refine (spec_ParseNum.calls kj23 (rdOf ByteArray.empty t319 2) 9999 t329 t330 _ A35.out).mono ?_); rintro e w' ⟨rfl, ⟨nd, rfl⟩⟩; refine ⟨_, rfl, ?_⟩; (try (rw [drewN_self wc]; generalize hq_ : World.drewN wc _ = wc; have n0_ : Aside0 (Kd.R Kd.string 9 wc w.heap.size (fun k_ => some k_ ≠ (.slice (some ad322) t319.length co26 : Value).ownBlock) u316003 x316003_10) := ⟨by rw [← hq_]; exact (zR HO_316003.out)⟩; have n1_ : Aside0 (Kd.R Kd.string 9 wc w.heap.size (fun k_ => some k_ ≠ (u316003 : Value).ownBlock) (.slice (some ad322) t319.length co26) t319) := ⟨by rw [← hq_]; exact (zR HO_6.out)⟩; have n2_ : Aside0 (wc.heap[gb314]? = some (.cells #[.int .i64 x315000_23, .int .i64 x315001_23, .int .i64 x315002_23, .slice none 0 0] 26 (0, 0))) := ⟨by rw [← hq_]; exact (zK BK314.out)⟩; have n3_ : Aside0 (wc.heap[gb315]? = some (.cells #[.int .i64 0, .int .i64 0, .int .i64 0, u316003] 26 (0, 0))) := ⟨by rw [← hq_]; exact (zK BK315.out)⟩; have n4_ : Aside0 (Below w.heap.size w wc) := ⟨by rw [← hq_]; exact (zW HB.out)⟩; clear HO_316003 HO_6 BK314 BK315 HB hq_; have HO_316003 := n0_; have HO_6 := n1_; have BK314 := n2_; have BK315 := n3_; have HB := n4_; clear n0_ n1_ n2_ n3_ n4_)); have hnb58 := NB315_314.out; have hnc58 := NB314_315.out; obtain ⟨hcz59_0, hcz59_1, hcz59_2, hcz59_3, hfz59_0, hfz59_1, hfz59_2, hfz59_3⟩ := ze4 BK315.out; obtain ⟨hcz60_0, hcz60_1, hcz60_2, hcz60_3, hfz60_0, hfz60_1, hfz60_2, hfz60_3⟩ := ze4 BK314.out))
             refine bodyPost_ret (results_ct rfl _ _ gb314 26 #[.int .i64 0, .int .i64 0, .int .i64 0, .slice none 0 0] (0, 0) _ rfl (by (with_reducible repeat (first | refine blk_drewN ?_ _ | refine blk_drew ?_ | refine blk_alloc ?_ _)); refine blk_put (cs := #[.int .i64 0, .int .i64 0, .int .i64 0, .slice none 0 0]) ?_ 3 _ rfl; (with_reducible repeat (first | refine blk_drewN ?_ _ | refine blk_drew ?_ | refine blk_alloc ?_ _)); refine blk_put (cs := #[.int .i64 0, .int .i64 0, .int .i64 x315002_23, .slice none 0 0]) ?_ 2 _ rfl; (with_reducible repeat (first | refine blk_drewN ?_ _ | refine blk_drew ?_ | refine blk_alloc ?_ _)); refine blk_put (cs := #[.int .i64 0, .int .i64 x315001_23, .int .i64 x315002_23, .slice none 0 0]) ?_ 1 _ rfl; (with_reducible repeat (first | refine blk_drewN ?_ _ | refine blk_drew ?_ | refine blk_alloc ?_ _)); refine blk_put (cs := #[.int .i64 x315000_23, .int .i64 x315001_23, .int .i64 x315002_23, .slice none 0 0]) ?_ 0 _ rfl; (with_reducible repeat (first | refine blk_drewN ?_ _ | refine blk_drew ?_ | refine blk_alloc ?_ _)); refine blk_far ?_ NB314_315.out _; (with_reducible repeat (first | refine blk_drewN ?_ _ | refine blk_drew ?_ | refine blk_alloc ?_ _)); refine blk_far ?_ NB314_315.out _; (with_reducible repeat (first | refine blk_drewN ?_ _ | refine blk_drew ?_ | refine blk_alloc ?_ _)); refine blk_far ?_ NB314_315.out _; (with_reducible repeat (first | refine blk_drewN ?_ _ | refine blk_drew ?_ | refine blk_alloc ?_ _)); exact BK314.out) Tryd.underlying26 rfl (by kernel_rfl)) rfl ?_
             exact ⟨_, zE, by first | exact Kd.R_nil _ _ _ _ _ | exact Kd.N_nil _ _ _ _ _ | exact Kd.V_nil _ _ _ _ _ | exact Kd.Q_nil _ _ _ _ _ | exact Kd.S_nil _ _ _ _ _, zW HB.out⟩
           ·rw [if_neg c34] at H
            exact absurd H (by simp)
          ·rw [if_neg c32] at H
           exact absurd H (by simp)
         ·rw [if_neg c30] at H
          exact absurd H (by simp)
      ·rw [if_neg c22] at H
       exact absurd H (by simp)
     ·rw [if_neg c21] at H
      exact absurd H (by simp)
end Go.Proofs.YtbjgmbhkofgjaaaDoor.PGB
