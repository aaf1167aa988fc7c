/- The walks of the functions that these laws reach, and what each comes to: printed by this session's program. -/
import Derived.Test.YtpcdhoeoefoeoaaGreatDoorZGAPGAx0
import Derived.Test.YtpcdhoeoefoeoaaGreatDoorZGAPGAx9
import Derived.Test.YtpcdhoeoefoeoaaGreatDoorZGASays
namespace Go.Proofs.YtpcdhoeoefoeoaaGreatDoor.PGA
open Go.RowKit YtpcdhoeoefoeoaaGreatDoorW.PrintWords YtpcdhoeoefoeoaaGreatDoorW.PrintLast YtpcdhoeoefoeoaaGreatDoorW.PrintMore
attribute [local go_sem high] Mine.str_gtr Mine.str_leq Mine.str_geq
attribute [local go_sem] max2_int min2_int max_two min_two max_three min_three max_four min_four   -- for this text's walks alone
set_option linter.unusedVariables false
set_option maxHeartbeats 8000000
set_option maxRecDepth 100000
set_option linter.unusedSimpArgs false
/-! ### spec_l3LessPre: function 142 -/
mutual
def spec_l3LessPre.j0 : Nat → List ByteArray → List ByteArray → Bool → Option (Bool)
 | 0, _, _, _ => none
 | k + 1, x0, x1, x13 => if x13 = true then (if (x0.length : Int) > 0 then (some ((x1.length : Int) == 0)) else (some false)) else (spec_l3LessPre.j1 k x0 x1)
def spec_l3LessPre.j1 : Nat → List ByteArray → List ByteArray → Option (Bool)
 | 0, _, _ => none
 | k + 1, x0, x1 => spec_l3LessPre.l0 k x0 x1 0
def spec_l3LessPre.l0 : Nat → List ByteArray → List ByteArray → Int → Option (Bool)
 | 0, _, _, _ => none
 | k + 1, x0, x1, x5 => if x5 < (x0.length : Int) then (spec_l3LessPre.j3 k x0 x1 x5 (decide (x5 < (x1.length : Int)))) else (spec_l3LessPre.j3 k x0 x1 x5 false)
def spec_l3LessPre.j3 : Nat → List ByteArray → List ByteArray → Int → Bool → Option (Bool)
 | 0, _, _, _, _ => none
 | k + 1, x0, x1, x5, x31 => if x31 = true then (if 0 ≤ x5 then (if x5 < (x0.length : Int) then (if x5 < (x1.length : Int) then (if (rdOf ByteArray.empty x0 x5).toList = (rdOf ByteArray.empty x1 x5).toList then (spec_l3LessPre.l0 k x0 x1 (wrap64 (x5 + 1))) else ((spec_l3LessPart.f k (rdOf ByteArray.empty x0 x5) (rdOf ByteArray.empty x1 x5)).bind fun t417 => (some t417))) else (none)) else (none)) else (none)) else (some (decide ((x0.length : Int) < (x1.length : Int))))
end
def spec_l3LessPre.f (k : Nat) (l0 l1 : List ByteArray) : Option (Bool) := if (l0.length : Int) = 0 then (spec_l3LessPre.j0 k l0 l1 true) else (spec_l3LessPre.j0 k l0 l1 ((l1.length : Int) == 0))
theorem spec_l3LessPre.calls (k : Nat) (A0 : Option Addr) (c0 : Nat) (l0 : List ByteArray) (A1 : Option Addr) (c1 : Nat) (l1 : List ByteArray) (r : Bool) (w : World) (hr0 : Kd.C Kd.string w A0 l0.length l0) (hc0 : l0.length ≤ c0) (hr1 : Kd.C Kd.string w A1 l1.length l1) (hc1 : l1.length ≤ c1) (h : spec_l3LessPre.f k l0 l1 = some r) :
  Calls Tryz.prog 142 #[.slice A0 l0.length c0, .slice A1 l1.length c1] w fun e w' => e = .returned (.bool r) ∧ Drawn0 w w' := by
 have HR0 := Aside0.mk hr0
 have HC0 := Aside0.mk hc0
 clear hr0 hc0
 have HR1 := Aside0.mk hr1
 have HC1 := Aside0.mk hc1
 clear hr1 hc1
 unfold spec_l3LessPre.f at h
 have H := h
 clear h
 have HC3 := Aside0.mk H
 clear H
 go_enter Tryz.func142, Tryz.ntmps142
 go_upto_region 1 with (fail)
 repeat (go_quiet (fail); go_upto_region 1 with (fail))
 go_cut [13] (fun v13 wc => ∃ (kq : Nat) (x13_2 : Bool), v13 = .bool x13_2 ∧ Aside0 (spec_l3LessPre.j0 kq l0 l1 x13_2 = some r) ∧ Aside0 (kq ≤ k) ∧ Drawn0 w wc)
 case first =>
  have H := HC3.out
  clear HC3
  replace H := zI1 H
  rcases H with ⟨c4, H⟩ | ⟨c4, H⟩
  ·have c4b0 := beq_iff_eq.mpr c4
   have c4b1 := bne_eq_false_iff_eq.mpr c4
   clear c4
   (first | rw [c4b0] | (simp only [i64_w, i32_w]; rw [c4b0]) | skip)
   have H' := Aside0.mk H
   clear H
   go_wp2
   repeat (go_quiet (fail); try go_wp2)
   go_meet
   case rel => exact ⟨_, (true), zS, (by first | exact H' | (subst_vars; exact H')), ⟨by first | omega | exact Nat.le_refl _⟩, by repeat (first | exact Drawn0.refl _ | apply Drawn0.step)⟩
  ·have c4b0 := beq_eq_false_iff_ne.mpr c4
   have c4b1 := bne_iff_ne.mpr c4
   have c4b2 : ¬ (l0 = []) := fun h_ => c4 (by rw [h_]; rfl)
   (first | rw [c4b0] | (simp only [i64_w, i32_w]; rw [c4b0]) | skip)
   have H' := Aside0.mk H
   clear H
   go_wp2
   repeat (go_quiet (fail); try go_wp2)
   go_meet
   case rel => exact ⟨_, (((l1.length : Int) == 0)), zS, (by first | exact H' | (subst_vars; exact H')), ⟨by first | omega | exact Nat.le_refl _⟩, by repeat (first | exact Drawn0.refl _ | apply Drawn0.step)⟩
 case rest =>
  clear HC3
  try clear c1
  try clear p2
  try clear c4
  try clear c4b0
  try clear c4b1
  try clear c4b2
  obtain ⟨kq, x13_2, rfl, HA, HJ2, ⟨mc2, rfl⟩⟩ := hcut
  cases kq with
  | zero => exact absurd HA.out (by simp [spec_l3LessPre.j0])
  | succ kj2 =>
   have H := HA.out
   clear HA
   simp only [spec_l3LessPre.j0] at H
   have HC5 := Aside0.mk H
   clear H
   go_upto_if 13 with (fail)
   repeat (go_quiet (fail); go_upto_if 13 with (fail))
   go_cut [] (fun wc => ∃ (kq : Nat), Aside0 (spec_l3LessPre.j1 kq l0 l1 = some r) ∧ Aside0 (kq ≤ kj2) ∧ Drawn0 w wc)
   case first =>
    have H := HC5.out
    clear HC5
    replace H := zB0 H
    rcases H with ⟨rfl, H⟩ | ⟨rfl, H⟩
    ·replace H := zI1 H
     rcases H with ⟨c7, H⟩ | ⟨c7, H⟩
     ·have c7b0 : decide (0 < (l0.length : Int)) = true := decide_eq_true c7
      have c7b1 : decide (0 < l0.length) = true := decide_eq_true (by omega)
      clear c7
      (first | rw [c7b0] | (simp only [i64_w, i32_w]; rw [c7b0]) | skip)
      obtain rfl := Option.some.inj H
      go_wp2
      repeat (go_quiet (fail); try go_wp2)
      go_ret
      exact ⟨by first | rfl | (simp; done) | (simp [*]; done) | (simp; rw [Bool.eq_iff_iff]; simp; done), by repeat (first | exact Drawn0.refl _ | apply Drawn0.step)⟩
     ·have c7b0 : decide (0 < (l0.length : Int)) = false := decide_eq_false c7
      have c7b1 : decide (0 < l0.length) = false := decide_eq_false (by omega)
      clear c7
      (first | rw [c7b0] | (simp only [i64_w, i32_w]; rw [c7b0]) | skip)
      obtain rfl := Option.some.inj H
      go_wp2
      repeat (go_quiet (fail); try go_wp2)
      go_ret
      exact ⟨by first | rfl | (simp; done) | (simp [*]; done) | (simp; rw [Bool.eq_iff_iff]; simp; done), by repeat (first | exact Drawn0.refl _ | apply Drawn0.step)⟩
    ·have H' := Aside0.mk H
     clear H
     go_wp2
     repeat (go_quiet (fail); try go_wp2)
     go_meet
     case rel => exact ⟨_, (by first | exact H' | (subst_vars; exact H')), ⟨by have := HJ2.out; first | omega | exact Nat.le_refl _⟩, by repeat (first | exact Drawn0.refl _ | apply Drawn0.step)⟩
   case rest =>
    clear HC5
    try clear c1
    try clear c2
    try clear p2
    try clear c4
    try clear c4b0
    try clear c4b1
    try clear c4b2
    try clear c6
    try clear c7
    try clear c7b0
    try clear c7b1
    try clear p2
    obtain ⟨kq, HA, HJ4, ⟨mc4, rfl⟩⟩ := hcut
    cases kq with
    | zero => exact absurd HA.out (by simp [spec_l3LessPre.j1])
    | succ kj4 =>
     have H := HA.out
     clear HA
     simp only [spec_l3LessPre.j1] at H
     have H' := Aside0.mk H
     clear H
     go_wp2
     repeat (go_quiet (fail); try go_wp2)
     go_loopg [5] kj4 (fun kq v5 w' => ∃ (x5_3 : Int), v5 = .int .i64 x5_3 ∧ Aside0 (spec_l3LessPre.l0 kq l0 l1 x5_3 = some r) ∧ Aside0 (kq ≤ kj4) ∧ Drawn0 w w')
     case atStart => exact ⟨(0), zS, H', ⟨Nat.le_refl _⟩, by repeat (first | exact Drawn0.refl _ | apply Drawn0.step)⟩
     case round =>
      clear H'
      try clear c1
      try clear c2
      try clear p2
      try clear c4
      try clear c4b0
      try clear c4b1
      try clear c4b2
      try clear c6
      try clear c7
      try clear c7b0
      try clear c7b1
      try clear p2
      obtain ⟨x5_3, rfl, HA, HK3, ⟨m3, rfl⟩⟩ := hrel
      cases gk with
      | zero => exact absurd HA.out (by simp [spec_l3LessPre.l0])
      | succ k3 =>
       have H := HA.out
       clear HA
       simp only [spec_l3LessPre.l0] at H
       have HC8 := Aside0.mk H
       clear H
       go_upto_region 4 with (fail)
       repeat (go_quiet (fail); go_upto_region 4 with (fail))
       go_cut [31] (fun v31 wc => ∃ (kq : Nat) (x31_7 : Bool), v31 = .bool x31_7 ∧ Aside0 (spec_l3LessPre.j3 kq l0 l1 x5_3 x31_7 = some r) ∧ Aside0 (kq ≤ k3) ∧ Drawn0 w wc)
       case first =>
        have H := HC8.out
        clear HC8
        replace H := zI0 H
        rcases H with ⟨c9b0, H⟩ | ⟨c9b0, H⟩
        ·(first | rw [c9b0] | (simp only [i64_w, i32_w]; rw [c9b0]) | skip)
         have H' := Aside0.mk H
         clear H
         go_wp2
         repeat (go_quiet (fail); try go_wp2)
         go_meet
         case rel => exact ⟨_, (decide (x5_3 < (l1.length : Int))), zS, (by first | exact H' | (subst_vars; exact H')), ⟨by have := HJ2.out; have := HJ4.out; have := HK3.out; first | omega | exact Nat.le_refl _⟩, by repeat (first | exact Drawn0.refl _ | apply Drawn0.step)⟩
        ·(first | rw [c9b0] | (simp only [i64_w, i32_w]; rw [c9b0]) | skip)
         have H' := Aside0.mk H
         clear H
         go_wp2
         repeat (go_quiet (fail); try go_wp2)
         go_meet
         case rel => exact ⟨_, (false), zS, (by first | exact H' | (subst_vars; exact H')), ⟨by have := HJ2.out; have := HJ4.out; have := HK3.out; first | omega | exact Nat.le_refl _⟩, by repeat (first | exact Drawn0.refl _ | apply Drawn0.step)⟩
       case rest =>
        clear HC8
        try clear c1
        try clear c2
        try clear p2
        try clear c4
        try clear c4b0
        try clear c4b1
        try clear c4b2
        try clear c6
        try clear c7
        try clear c7b0
        try clear c7b1
        try clear c9
        try clear c9b0
        try clear p2
        obtain ⟨kq, x31_7, rfl, HA, HJ7, ⟨mc7, rfl⟩⟩ := hcut
        cases kq with
        | zero => exact absurd HA.out (by simp [spec_l3LessPre.j3])
        | succ kj7 =>
         have H := HA.out
         clear HA
         simp only [spec_l3LessPre.j3] at H
         replace H := zB0 H
         rcases H with ⟨rfl, H⟩ | ⟨rfl, H⟩
         ·replace H := zD0 H
          obtain ⟨c11b0, H⟩ := H
          replace H := zD0 H
          obtain ⟨c12b0, H⟩ := H
          replace H := zD0 H
          obtain ⟨c13b0, H⟩ := H
          replace H := zI1 H
          rcases H with ⟨c14, H⟩ | ⟨c14, H⟩
          ·have c14b0 := beq_iff_eq.mpr c14
           have c14b1 := bne_eq_false_iff_eq.mpr c14
           clear c14
           have H' := Aside0.mk H
           clear H
           have p413 : 0 ≤ (x5_3 : Int) := zD
           have q413 : x5_3 < (l0.length : Int) := zD
           obtain ⟨ad413, e413, hx413_0⟩ := Kd.at_string HR0.out x5_3 p413 q413
           cases e413
           replace p413 := eq_true p413
           replace q413 := eq_true q413
           have p414 : 0 ≤ (x5_3 : Int) := zD
           have q414 : x5_3 < (l1.length : Int) := zD
           obtain ⟨ad414, e414, hx414_0⟩ := Kd.at_string HR1.out x5_3 p414 q414
           cases e414
           replace p414 := eq_true p414
           replace q414 := eq_true q414
           go_wp2
           repeat (go_quiet (fail); try go_wp2)
           go_roundg kj7
           case measure => have := HJ2.out; have := HJ4.out; have := HK3.out; have := HJ7.out; omega
           case rel => exact ⟨(wrap64 (x5_3 + 1)), zS, H', ⟨by have := HJ2.out; have := HJ4.out; have := HK3.out; have := HJ7.out; omega⟩, by repeat (first | exact Drawn0.refl _ | apply Drawn0.step)⟩
          ·have c14b0 := beq_eq_false_iff_ne.mpr c14
           have c14b1 := bne_iff_ne.mpr c14
           replace H := zj H
           obtain ⟨t417, A15, H⟩ := H
           try dsimp only at H
           obtain rfl := Option.some.inj H
           have p413 : 0 ≤ (x5_3 : Int) := zD
           have q413 : x5_3 < (l0.length : Int) := zD
           obtain ⟨ad413, e413, hx413_0⟩ := Kd.at_string HR0.out x5_3 p413 q413
           cases e413
           replace p413 := eq_true p413
           replace q413 := eq_true q413
           have p414 : 0 ≤ (x5_3 : Int) := zD
           have q414 : x5_3 < (l1.length : Int) := zD
           obtain ⟨ad414, e414, hx414_0⟩ := Kd.at_string HR1.out x5_3 p414 q414
           cases e414
           replace p414 := eq_true p414
           replace q414 := eq_true q414
           have p415 : 0 ≤ (x5_3 : Int) := zD
           have q415 : x5_3 < (l0.length : Int) := zD
           obtain ⟨ad415, e415, hx415_0⟩ := Kd.at_string HR0.out x5_3 p415 q415
           obtain rfl : ad413 = ad415 := (by injection e415)
           replace p415 := eq_true p415
           replace q415 := eq_true q415
           have p416 : 0 ≤ (x5_3 : Int) := zD
           have q416 : x5_3 < (l1.length : Int) := zD
           obtain ⟨ad416, e416, hx416_0⟩ := Kd.at_string HR1.out x5_3 p416 q416
           obtain rfl : ad414 = ad416 := (by injection e416)
           replace p416 := eq_true p416
           replace q416 := eq_true q416
           go_wp2_with (first | (go_at_call 173; (with_reducible refine (spec_l3LessPart.calls kj7 (rdOf ByteArray.empty l0 x5_3) (rdOf ByteArray.empty l1 x5_3) t417 _ A15.out).mono ?_); rintro e w' ⟨rfl, ⟨nd, rfl⟩⟩; (try first | exact ⟨rfl, _, World.drewN_drewN _ _ _⟩ | exact ⟨rfl, _, Eq.trans (World.drewN_drewN _ _ _) (congrArg (World.drewN _) (Nat.add_assoc _ _ _))⟩)))
           repeat (go_quiet (first | (go_at_call 173; (with_reducible refine (spec_l3LessPart.calls kj7 (rdOf ByteArray.empty l0 x5_3) (rdOf ByteArray.empty l1 x5_3) t417 _ A15.out).mono ?_); rintro e w' ⟨rfl, ⟨nd, rfl⟩⟩; (try first | exact ⟨rfl, _, World.drewN_drewN _ _ _⟩ | exact ⟨rfl, _, Eq.trans (World.drewN_drewN _ _ _) (congrArg (World.drewN _) (Nat.add_assoc _ _ _))⟩))); try go_wp2_with (first | (go_at_call 173; (with_reducible refine (spec_l3LessPart.calls kj7 (rdOf ByteArray.empty l0 x5_3) (rdOf ByteArray.empty l1 x5_3) t417 _ A15.out).mono ?_); rintro e w' ⟨rfl, ⟨nd, rfl⟩⟩; (try first | exact ⟨rfl, _, World.drewN_drewN _ _ _⟩ | exact ⟨rfl, _, Eq.trans (World.drewN_drewN _ _ _) (congrArg (World.drewN _) (Nat.add_assoc _ _ _))⟩))))
           go_ret
           exact ⟨by first | rfl | (simp; done) | (simp [*]; done) | (simp; rw [Bool.eq_iff_iff]; simp; done), by repeat (first | exact Drawn0.refl _ | apply Drawn0.step)⟩
         ·obtain rfl := Option.some.inj H
          go_wp2
          repeat (go_quiet (fail); try go_wp2)
          go_ret
          exact ⟨by first | rfl | (simp; done) | (simp [*]; done) | (simp; rw [Bool.eq_iff_iff]; simp; done), by repeat (first | exact Drawn0.refl _ | apply Drawn0.step)⟩
/-! ### spec_LessVer: function 100 -/
def spec_LessVer.f (k : Nat) (a0_0 a0_1 a0_2 : Int) (l0_3 : List ByteArray) (a1_0 a1_1 a1_2 : Int) (l1_3 : List ByteArray) : Option (Bool) := if a0_0 = a1_0 then (if a0_1 = a1_1 then (if a0_2 = a1_2 then ((spec_l3LessPre.f k l0_3 l1_3).bind fun t420 => (some t420)) else (some (decide (a0_2 < a1_2)))) else (some (decide (a0_1 < a1_1)))) else (some (decide (a0_0 < a1_0)))
theorem spec_LessVer.calls (k : Nat) (a0_0 a0_1 a0_2 : Int) (A0_3 : Option Addr) (c0_3 : Nat) (l0_3 : List ByteArray) (a1_0 a1_1 a1_2 : Int) (A1_3 : Option Addr) (c1_3 : Nat) (l1_3 : List ByteArray) (r : Bool) (w : World) (hr0_3 : Kd.C Kd.string w A0_3 l0_3.length l0_3) (hc0_3 : l0_3.length ≤ c0_3) (hr1_3 : Kd.C Kd.string w A1_3 l1_3.length l1_3) (hc1_3 : l1_3.length ≤ c1_3) (h : spec_LessVer.f k a0_0 a0_1 a0_2 l0_3 a1_0 a1_1 a1_2 l1_3 = some r) :
  Calls Tryz.prog 100 #[.agg #[.int .i64 a0_0, .int .i64 a0_1, .int .i64 a0_2, .slice A0_3 l0_3.length c0_3], .agg #[.int .i64 a1_0, .int .i64 a1_1, .int .i64 a1_2, .slice A1_3 l1_3.length c1_3]] w fun e w' => e = .returned (.bool r) ∧ Below w.heap.size w w' := by
 have hu32 := Tryz.underlying32
 have HR0_3 := Aside0.mk hr0_3
 have HC0_3 := Aside0.mk hc0_3
 clear hr0_3 hc0_3
 have HR1_3 := Aside0.mk hr1_3
 have HC1_3 := Aside0.mk hc1_3
 clear hr1_3 hc1_3
 have HB := zA (Below.refl w.heap.size w)
 unfold spec_LessVer.f at h
 have H := h
 clear h
 go_enter Tryz.func100, Tryz.ntmps100
 go_upto_if 5 with (first | ((with_reducible refine zd 2 ?_); refine ze 2 32 #[.int .i64 a0_0, .int .i64 a0_1, .int .i64 a0_2, .slice A0_3 l0_3.length c0_3] ?_; intro gb418 hg w7 hbox hb; have BK418 := zA (hbox); have GW418 := zi HB hg; have GE418 := zi HB hg; replace HB := zA (below_step (zB) hb); clear hb hbox hg) | ((with_reducible refine zd 3 ?_); refine ze 3 32 #[.int .i64 a1_0, .int .i64 a1_1, .int .i64 a1_2, .slice A1_3 l1_3.length c1_3] ?_; intro gb419 hg w8 hbox hb; have BK419 := zA (hbox); have GW419 := zi HB hg; have GE419 := zi HB hg; replace HB := zh HB hb; have NB418_419 := zA (zL hg (zK BK418.out)); have NB419_418 := zA (zJ hg (zK BK418.out)); replace BK418 := zb BK418 hb; clear hb hbox hg; have hnb9 := NB418_419.out; have hnc9 := NB419_418.out; obtain ⟨hcz10_0, hcz10_1, hcz10_2, hcz10_3, hfz10_0, hfz10_1, hfz10_2, hfz10_3⟩ := ze4 BK418.out; obtain ⟨hcz11_0, hcz11_1, hcz11_2, hcz11_3, hfz11_0, hfz11_1, hfz11_2, hfz11_3⟩ := ze4 BK419.out))
 (try simp only [Act.put, zT])
 replace H := zI1 H
 rcases H with ⟨c3, H⟩ | ⟨c3, H⟩
 ·have c3b0 := beq_iff_eq.mpr c3
  have c3b1 := bne_eq_false_iff_eq.mpr c3
  clear c3
  replace H := zI1 H
  rcases H with ⟨c4, H⟩ | ⟨c4, H⟩
  ·have c4b0 := beq_iff_eq.mpr c4
   have c4b1 := bne_eq_false_iff_eq.mpr c4
   clear c4
   replace H := zI1 H
   rcases H with ⟨c5, H⟩ | ⟨c5, H⟩
   ·have c5b0 := beq_iff_eq.mpr c5
    have c5b1 := bne_eq_false_iff_eq.mpr c5
    clear c5
    replace H := zj H
    obtain ⟨t420, A6, H⟩ := H
    try dsimp only at H
    obtain rfl := Option.some.inj H
    (try simp only [c3b0, c3b1, c4b0, c4b1, c5b0, c5b1])
    go_wp2_with (first | ((with_reducible refine zq 142 ?_); refine zg (some 42) Tryz.func142 #[.slice A0_3 l0_3.length c0_3, .slice A1_3 l1_3.length c1_3] ?_; (with_reducible refine (spec_l3LessPre.calls k _ _ l0_3 _ _ l1_3 t420 _ ?side1 ?side2 ?side3 ?side4 A6.out).mono ?_); (case side1 => exact zC (Kd.C_below HR0_3.out HB.out)); (case side2 => exact HC0_3.out); (case side3 => exact zC (Kd.C_below HR1_3.out HB.out)); (case side4 => exact HC1_3.out); rintro e w' ⟨rfl, ⟨nd, rfl⟩⟩; refine ⟨_, rfl, ?_⟩))
    go_ret
    exact ⟨zE, zW HB.out⟩
   ·have c5b0 := beq_eq_false_iff_ne.mpr c5
    have c5b1 := bne_iff_ne.mpr c5
    obtain rfl := Option.some.inj H
    (try simp only [c3b0, c3b1, c4b0, c4b1, c5b0, c5b1])
    go_wp2
    go_ret
    exact ⟨zE, zW HB.out⟩
  ·have c4b0 := beq_eq_false_iff_ne.mpr c4
   have c4b1 := bne_iff_ne.mpr c4
   obtain rfl := Option.some.inj H
   (try simp only [c3b0, c3b1, c4b0, c4b1])
   go_wp2
   go_ret
   exact ⟨zE, zW HB.out⟩
 ·have c3b0 := beq_eq_false_iff_ne.mpr c3
  have c3b1 := bne_iff_ne.mpr c3
  obtain rfl := Option.some.inj H
  (try simp only [c3b0, c3b1])
  go_wp2
  go_ret
  exact ⟨zE, zW HB.out⟩
/-! ### spec_CmpOk: function 45 -/
def spec_CmpOk.f (k : Nat) (a0_0 a0_1 a0_2 a0_3 : Int) (l0_4 : List ByteArray) (a1_0 a1_1 a1_2 : Int) (l1_3 : List ByteArray) : Option (Bool) := if a0_0 = 0 then ((spec_SameVer.f k a0_1 a0_2 a0_3 l0_4 a1_0 a1_1 a1_2 l1_3).bind fun t423 => (some t423)) else (if a0_0 = 1 then ((spec_LessVer.f k a1_0 a1_1 a1_2 l1_3 a0_1 a0_2 a0_3 l0_4).bind fun t424 => (some t424)) else (if a0_0 = 2 then ((spec_LessVer.f k a0_1 a0_2 a0_3 l0_4 a1_0 a1_1 a1_2 l1_3).bind fun t425 => (some (!t425))) else (if a0_0 = 3 then ((spec_LessVer.f k a0_1 a0_2 a0_3 l0_4 a1_0 a1_1 a1_2 l1_3).bind fun t426 => (some t426)) else (if a0_0 = 4 then ((spec_LessVer.f k a1_0 a1_1 a1_2 l1_3 a0_1 a0_2 a0_3 l0_4).bind fun t427 => (some (!t427))) else (some false)))))
theorem spec_CmpOk.calls (k : Nat) (a0_0 a0_1 a0_2 a0_3 : Int) (A0_4 : Option Addr) (c0_4 : Nat) (l0_4 : List ByteArray) (a1_0 a1_1 a1_2 : Int) (A1_3 : Option Addr) (c1_3 : Nat) (l1_3 : List ByteArray) (r : Bool) (w : World) (hr0_4 : Kd.C Kd.string w A0_4 l0_4.length l0_4) (hc0_4 : l0_4.length ≤ c0_4) (hr1_3 : Kd.C Kd.string w A1_3 l1_3.length l1_3) (hc1_3 : l1_3.length ≤ c1_3) (h : spec_CmpOk.f k a0_0 a0_1 a0_2 a0_3 l0_4 a1_0 a1_1 a1_2 l1_3 = some r) :
  Calls Tryz.prog 45 #[.agg #[.int .i64 a0_0, .int .i64 a0_1, .int .i64 a0_2, .int .i64 a0_3, .slice A0_4 l0_4.length c0_4], .agg #[.int .i64 a1_0, .int .i64 a1_1, .int .i64 a1_2, .slice A1_3 l1_3.length c1_3]] w fun e w' => e = .returned (.bool r) ∧ Below w.heap.size w w' := by
 have hu75 := Tryz.underlying75
 have hu32 := Tryz.underlying32
 have HR0_4 := Aside0.mk hr0_4
 have HC0_4 := Aside0.mk hc0_4
 clear hr0_4 hc0_4
 have HR1_3 := Aside0.mk hr1_3
 have HC1_3 := Aside0.mk hc1_3
 clear hr1_3 hc1_3
 have HB := zA (Below.refl w.heap.size w)
 unfold spec_CmpOk.f at h
 have H := h
 clear h
 replace H := zI1 H
 rcases H with ⟨c3, H⟩ | ⟨c3, H⟩
 ·have c3b0 := beq_iff_eq.mpr c3
  have c3b1 := bne_eq_false_iff_eq.mpr c3
  clear c3
  replace H := zj H
  obtain ⟨t423, A4, H⟩ := H
  try dsimp only at H
  obtain rfl := Option.some.inj H
  go_enter Tryz.func45, Tryz.ntmps45
  go_wp2_with (first | ((with_reducible refine zd 2 ?_); refine ze 2 75 #[.int .i64 a0_0, .int .i64 a0_1, .int .i64 a0_2, .int .i64 a0_3, .slice A0_4 l0_4.length c0_4] ?_; intro gb421 hg w5 hbox hb; have BK421 := zA (hbox); have GW421 := zi HB hg; have GE421 := zi HB hg; replace HB := zA (below_step (zB) hb); clear hb hbox hg) | ((with_reducible refine zd 3 ?_); refine ze 3 32 #[.int .i64 a1_0, .int .i64 a1_1, .int .i64 a1_2, .slice A1_3 l1_3.length c1_3] ?_; intro gb422 hg w6 hbox hb; have BK422 := zA (hbox); have GW422 := zi HB hg; have GE422 := zi HB hg; replace HB := zh HB hb; have NB421_422 := zA (zL hg (zK BK421.out)); have NB422_421 := zA (zJ hg (zK BK421.out)); replace BK421 := zb BK421 hb; clear hb hbox hg; have hnb7 := NB421_422.out; have hnc7 := NB422_421.out; obtain ⟨hcz8_0, hcz8_1, hcz8_2, hcz8_3, hcz8_4, hfz8_0, hfz8_1, hfz8_2, hfz8_3, hfz8_4⟩ := ze5 BK421.out; obtain ⟨hcz9_0, hcz9_1, hcz9_2, hcz9_3, hfz9_0, hfz9_1, hfz9_2, hfz9_3⟩ := ze4 BK422.out) | ((with_reducible refine zq 99 ?_); refine zg (some 12) Tryz.func99 #[.agg #[.int .i64 a0_1, .int .i64 a0_2, .int .i64 a0_3, .slice A0_4 l0_4.length c0_4], .agg #[.int .i64 a1_0, .int .i64 a1_1, .int .i64 a1_2, .slice A1_3 l1_3.length c1_3]] ?_; (with_reducible refine (spec_SameVer.calls k a0_1 a0_2 a0_3 _ _ l0_4 a1_0 a1_1 a1_2 _ _ l1_3 t423 _ ?side1 ?side2 ?side3 ?side4 A4.out).mono ?_); (case side1 => exact zC (Kd.C_below HR0_4.out HB.out)); (case side2 => exact HC0_4.out); (case side3 => exact zC (Kd.C_below HR1_3.out HB.out)); (case side4 => exact HC1_3.out); rintro e w10 ⟨rfl, hb⟩; refine ⟨_, rfl, ?_⟩; replace BK421 := zb BK421 hb; replace BK422 := zb BK422 hb; replace HB := zh HB hb; (try clear hb)))
  go_ret
  exact ⟨zE, zW HB.out⟩
 ·have c3b0 := beq_eq_false_iff_ne.mpr c3
  have c3b1 := bne_iff_ne.mpr c3
  replace H := zI1 H
  rcases H with ⟨c11, H⟩ | ⟨c11, H⟩
  ·have c11b0 := beq_iff_eq.mpr c11
   have c11b1 := bne_eq_false_iff_eq.mpr c11
   clear c11
   replace H := zj H
   obtain ⟨t424, A12, H⟩ := H
   try dsimp only at H
   obtain rfl := Option.some.inj H
   go_enter Tryz.func45, Tryz.ntmps45
   go_wp2_with (first | ((with_reducible refine zd 2 ?_); refine ze 2 75 #[.int .i64 a0_0, .int .i64 a0_1, .int .i64 a0_2, .int .i64 a0_3, .slice A0_4 l0_4.length c0_4] ?_; intro gb421 hg w13 hbox hb; have BK421 := zA (hbox); have GW421 := zi HB hg; have GE421 := zi HB hg; replace HB := zA (below_step (zB) hb); clear hb hbox hg) | ((with_reducible refine zd 3 ?_); refine ze 3 32 #[.int .i64 a1_0, .int .i64 a1_1, .int .i64 a1_2, .slice A1_3 l1_3.length c1_3] ?_; intro gb422 hg w14 hbox hb; have BK422 := zA (hbox); have GW422 := zi HB hg; have GE422 := zi HB hg; replace HB := zh HB hb; have NB421_422 := zA (zL hg (zK BK421.out)); have NB422_421 := zA (zJ hg (zK BK421.out)); replace BK421 := zb BK421 hb; clear hb hbox hg; have hnb15 := NB421_422.out; have hnc15 := NB422_421.out; obtain ⟨hcz16_0, hcz16_1, hcz16_2, hcz16_3, hcz16_4, hfz16_0, hfz16_1, hfz16_2, hfz16_3, hfz16_4⟩ := ze5 BK421.out; obtain ⟨hcz17_0, hcz17_1, hcz17_2, hcz17_3, hfz17_0, hfz17_1, hfz17_2, hfz17_3⟩ := ze4 BK422.out) | ((with_reducible refine zq 100 ?_); refine zg (some 18) Tryz.func100 #[.agg #[.int .i64 a1_0, .int .i64 a1_1, .int .i64 a1_2, .slice A1_3 l1_3.length c1_3], .agg #[.int .i64 a0_1, .int .i64 a0_2, .int .i64 a0_3, .slice A0_4 l0_4.length c0_4]] ?_; (with_reducible refine (spec_LessVer.calls k a1_0 a1_1 a1_2 _ _ l1_3 a0_1 a0_2 a0_3 _ _ l0_4 t424 _ ?side1 ?side2 ?side3 ?side4 A12.out).mono ?_); (case side1 => exact zC (Kd.C_below HR1_3.out HB.out)); (case side2 => exact HC1_3.out); (case side3 => exact zC (Kd.C_below HR0_4.out HB.out)); (case side4 => exact HC0_4.out); rintro e w18 ⟨rfl, hb⟩; refine ⟨_, rfl, ?_⟩; replace BK421 := zb BK421 hb; replace BK422 := zb BK422 hb; replace HB := zh HB hb; (try clear hb)))
   go_ret
   exact ⟨zE, zW HB.out⟩
  ·have c11b0 := beq_eq_false_iff_ne.mpr c11
   have c11b1 := bne_iff_ne.mpr c11
   replace H := zI1 H
   rcases H with ⟨c19, H⟩ | ⟨c19, H⟩
   ·have c19b0 := beq_iff_eq.mpr c19
    have c19b1 := bne_eq_false_iff_eq.mpr c19
    clear c19
    replace H := zj H
    obtain ⟨t425, A20, H⟩ := H
    try dsimp only at H
    obtain rfl := Option.some.inj H
    go_enter Tryz.func45, Tryz.ntmps45
    go_wp2_with (first | ((with_reducible refine zd 2 ?_); refine ze 2 75 #[.int .i64 a0_0, .int .i64 a0_1, .int .i64 a0_2, .int .i64 a0_3, .slice A0_4 l0_4.length c0_4] ?_; intro gb421 hg w21 hbox hb; have BK421 := zA (hbox); have GW421 := zi HB hg; have GE421 := zi HB hg; replace HB := zA (below_step (zB) hb); clear hb hbox hg) | ((with_reducible refine zd 3 ?_); refine ze 3 32 #[.int .i64 a1_0, .int .i64 a1_1, .int .i64 a1_2, .slice A1_3 l1_3.length c1_3] ?_; intro gb422 hg w22 hbox hb; have BK422 := zA (hbox); have GW422 := zi HB hg; have GE422 := zi HB hg; replace HB := zh HB hb; have NB421_422 := zA (zL hg (zK BK421.out)); have NB422_421 := zA (zJ hg (zK BK421.out)); replace BK421 := zb BK421 hb; clear hb hbox hg; have hnb23 := NB421_422.out; have hnc23 := NB422_421.out; obtain ⟨hcz24_0, hcz24_1, hcz24_2, hcz24_3, hcz24_4, hfz24_0, hfz24_1, hfz24_2, hfz24_3, hfz24_4⟩ := ze5 BK421.out; obtain ⟨hcz25_0, hcz25_1, hcz25_2, hcz25_3, hfz25_0, hfz25_1, hfz25_2, hfz25_3⟩ := ze4 BK422.out) | ((with_reducible refine zq 100 ?_); refine zg (some 24) Tryz.func100 #[.agg #[.int .i64 a0_1, .int .i64 a0_2, .int .i64 a0_3, .slice A0_4 l0_4.length c0_4], .agg #[.int .i64 a1_0, .int .i64 a1_1, .int .i64 a1_2, .slice A1_3 l1_3.length c1_3]] ?_; (with_reducible refine (spec_LessVer.calls k a0_1 a0_2 a0_3 _ _ l0_4 a1_0 a1_1 a1_2 _ _ l1_3 t425 _ ?side1 ?side2 ?side3 ?side4 A20.out).mono ?_); (case side1 => exact zC (Kd.C_below HR0_4.out HB.out)); (case side2 => exact HC0_4.out); (case side3 => exact zC (Kd.C_below HR1_3.out HB.out)); (case side4 => exact HC1_3.out); rintro e w26 ⟨rfl, hb⟩; refine ⟨_, rfl, ?_⟩; replace BK421 := zb BK421 hb; replace BK422 := zb BK422 hb; replace HB := zh HB hb; (try clear hb)))
    go_ret
    exact ⟨zE, zW HB.out⟩
   ·have c19b0 := beq_eq_false_iff_ne.mpr c19
    have c19b1 := bne_iff_ne.mpr c19
    replace H := zI1 H
    rcases H with ⟨c27, H⟩ | ⟨c27, H⟩
    ·have c27b0 := beq_iff_eq.mpr c27
     have c27b1 := bne_eq_false_iff_eq.mpr c27
     clear c27
     replace H := zj H
     obtain ⟨t426, A28, H⟩ := H
     try dsimp only at H
     obtain rfl := Option.some.inj H
     go_enter Tryz.func45, Tryz.ntmps45
     go_wp2_with (first | ((with_reducible refine zd 2 ?_); refine ze 2 75 #[.int .i64 a0_0, .int .i64 a0_1, .int .i64 a0_2, .int .i64 a0_3, .slice A0_4 l0_4.length c0_4] ?_; intro gb421 hg w29 hbox hb; have BK421 := zA (hbox); have GW421 := zi HB hg; have GE421 := zi HB hg; replace HB := zA (below_step (zB) hb); clear hb hbox hg) | ((with_reducible refine zd 3 ?_); refine ze 3 32 #[.int .i64 a1_0, .int .i64 a1_1, .int .i64 a1_2, .slice A1_3 l1_3.length c1_3] ?_; intro gb422 hg w30 hbox hb; have BK422 := zA (hbox); have GW422 := zi HB hg; have GE422 := zi HB hg; replace HB := zh HB hb; have NB421_422 := zA (zL hg (zK BK421.out)); have NB422_421 := zA (zJ hg (zK BK421.out)); replace BK421 := zb BK421 hb; clear hb hbox hg; have hnb31 := NB421_422.out; have hnc31 := NB422_421.out; obtain ⟨hcz32_0, hcz32_1, hcz32_2, hcz32_3, hcz32_4, hfz32_0, hfz32_1, hfz32_2, hfz32_3, hfz32_4⟩ := ze5 BK421.out; obtain ⟨hcz33_0, hcz33_1, hcz33_2, hcz33_3, hfz33_0, hfz33_1, hfz33_2, hfz33_3⟩ := ze4 BK422.out) | ((with_reducible refine zq 100 ?_); refine zg (some 31) Tryz.func100 #[.agg #[.int .i64 a0_1, .int .i64 a0_2, .int .i64 a0_3, .slice A0_4 l0_4.length c0_4], .agg #[.int .i64 a1_0, .int .i64 a1_1, .int .i64 a1_2, .slice A1_3 l1_3.length c1_3]] ?_; (with_reducible refine (spec_LessVer.calls k a0_1 a0_2 a0_3 _ _ l0_4 a1_0 a1_1 a1_2 _ _ l1_3 t426 _ ?side1 ?side2 ?side3 ?side4 A28.out).mono ?_); (case side1 => exact zC (Kd.C_below HR0_4.out HB.out)); (case side2 => exact HC0_4.out); (case side3 => exact zC (Kd.C_below HR1_3.out HB.out)); (case side4 => exact HC1_3.out); rintro e w34 ⟨rfl, hb⟩; refine ⟨_, rfl, ?_⟩; replace BK421 := zb BK421 hb; replace BK422 := zb BK422 hb; replace HB := zh HB hb; (try clear hb)))
     go_ret
     exact ⟨zE, zW HB.out⟩
    ·have c27b0 := beq_eq_false_iff_ne.mpr c27
     have c27b1 := bne_iff_ne.mpr c27
     replace H := zI1 H
     rcases H with ⟨c35, H⟩ | ⟨c35, H⟩
     ·have c35b0 := beq_iff_eq.mpr c35
      have c35b1 := bne_eq_false_iff_eq.mpr c35
      clear c35
      replace H := zj H
      obtain ⟨t427, A36, H⟩ := H
      try dsimp only at H
      obtain rfl := Option.some.inj H
      go_enter Tryz.func45, Tryz.ntmps45
      go_wp2_with (first | ((with_reducible refine zd 2 ?_); refine ze 2 75 #[.int .i64 a0_0, .int .i64 a0_1, .int .i64 a0_2, .int .i64 a0_3, .slice A0_4 l0_4.length c0_4] ?_; intro gb421 hg w37 hbox hb; have BK421 := zA (hbox); have GW421 := zi HB hg; have GE421 := zi HB hg; replace HB := zA (below_step (zB) hb); clear hb hbox hg) | ((with_reducible refine zd 3 ?_); refine ze 3 32 #[.int .i64 a1_0, .int .i64 a1_1, .int .i64 a1_2, .slice A1_3 l1_3.length c1_3] ?_; intro gb422 hg w38 hbox hb; have BK422 := zA (hbox); have GW422 := zi HB hg; have GE422 := zi HB hg; replace HB := zh HB hb; have NB421_422 := zA (zL hg (zK BK421.out)); have NB422_421 := zA (zJ hg (zK BK421.out)); replace BK421 := zb BK421 hb; clear hb hbox hg; have hnb39 := NB421_422.out; have hnc39 := NB422_421.out; obtain ⟨hcz40_0, hcz40_1, hcz40_2, hcz40_3, hcz40_4, hfz40_0, hfz40_1, hfz40_2, hfz40_3, hfz40_4⟩ := ze5 BK421.out; obtain ⟨hcz41_0, hcz41_1, hcz41_2, hcz41_3, hfz41_0, hfz41_1, hfz41_2, hfz41_3⟩ := ze4 BK422.out) | ((with_reducible refine zq 100 ?_); refine zg (some 37) Tryz.func100 #[.agg #[.int .i64 a1_0, .int .i64 a1_1, .int .i64 a1_2, .slice A1_3 l1_3.length c1_3], .agg #[.int .i64 a0_1, .int .i64 a0_2, .int .i64 a0_3, .slice A0_4 l0_4.length c0_4]] ?_; (with_reducible refine (spec_LessVer.calls k a1_0 a1_1 a1_2 _ _ l1_3 a0_1 a0_2 a0_3 _ _ l0_4 t427 _ ?side1 ?side2 ?side3 ?side4 A36.out).mono ?_); (case side1 => exact zC (Kd.C_below HR1_3.out HB.out)); (case side2 => exact HC1_3.out); (case side3 => exact zC (Kd.C_below HR0_4.out HB.out)); (case side4 => exact HC0_4.out); rintro e w42 ⟨rfl, hb⟩; refine ⟨_, rfl, ?_⟩; replace BK421 := zb BK421 hb; replace BK422 := zb BK422 hb; replace HB := zh HB hb; (try clear hb)))
      go_ret
      exact ⟨zE, zW HB.out⟩
     ·have c35b0 := beq_eq_false_iff_ne.mpr c35
      have c35b1 := bne_iff_ne.mpr c35
      obtain rfl := Option.some.inj H
      go_enter Tryz.func45, Tryz.ntmps45
      go_wp2_with (first | ((with_reducible refine zd 2 ?_); refine ze 2 75 #[.int .i64 a0_0, .int .i64 a0_1, .int .i64 a0_2, .int .i64 a0_3, .slice A0_4 l0_4.length c0_4] ?_; intro gb421 hg w43 hbox hb; have BK421 := zA (hbox); have GW421 := zi HB hg; have GE421 := zi HB hg; replace HB := zA (below_step (zB) hb); clear hb hbox hg) | ((with_reducible refine zd 3 ?_); refine ze 3 32 #[.int .i64 a1_0, .int .i64 a1_1, .int .i64 a1_2, .slice A1_3 l1_3.length c1_3] ?_; intro gb422 hg w44 hbox hb; have BK422 := zA (hbox); have GW422 := zi HB hg; have GE422 := zi HB hg; replace HB := zh HB hb; have NB421_422 := zA (zL hg (zK BK421.out)); have NB422_421 := zA (zJ hg (zK BK421.out)); replace BK421 := zb BK421 hb; clear hb hbox hg; have hnb45 := NB421_422.out; have hnc45 := NB422_421.out; obtain ⟨hcz46_0, hcz46_1, hcz46_2, hcz46_3, hcz46_4, hfz46_0, hfz46_1, hfz46_2, hfz46_3, hfz46_4⟩ := ze5 BK421.out))
      go_ret
      exact ⟨zE, zW HB.out⟩
end Go.Proofs.YtpcdhoeoefoeoaaGreatDoor.PGA
