/- The walks of the functions that these laws reach, and what each comes to: printed by this session's program. -/
import Derived.Test.YtpcdhoeoefoeoaaGreatDoorZGCPGCx0
import Derived.Test.YtpcdhoeoefoeoaaGreatDoorZGCPGCx1
import Derived.Test.YtpcdhoeoefoeoaaGreatDoorZGCPGCx2
import Derived.Test.YtpcdhoeoefoeoaaGreatDoorZGCSays
namespace Go.Proofs.YtpcdhoeoefoeoaaGreatDoor.PGC
open Go.RowKit YtpcdhoeoefoeoaaGreatDoorW.PrintWords YtpcdhoeoefoeoaaGreatDoorW.PrintLast YtpcdhoeoefoeoaaGreatDoorW.PrintMore
attribute [local go_sem high] Mine.str_gtr Mine.str_leq Mine.str_geq
attribute [local go_sem] max2_int min2_int max_two min_two max_three min_three max_four min_four   -- for this text's walks alone
set_option linter.unusedVariables false
set_option maxHeartbeats 8000000
set_option maxRecDepth 100000
set_option linter.unusedSimpArgs false
/-! ### spec_l3Part: function 119 -/
mutual
def spec_l3Part.l0 : Nat → ByteArray → Int → Option (Bool)
 | 0, _, _ => none
 | k + 1, x0, x3 => if x3 < (x0.size : Int) then (spec_l3Part.j1 k x0 x3) else ((spec_l1In.f (x0.size : Int) 1 8).bind fun a0 => (if a0 = true then ((spec_l3Digits.f k x0).bind fun a1 => (if a1 = true then (if (x0.size : Int) = 1 then (some true) else (if 0 < (x0.size : Int) then (some ((bt x0 0) != 48)) else (none))) else (some true))) else (some false)))
def spec_l3Part.j1 : Nat → ByteArray → Int → Option (Bool)
 | 0, _, _ => none
 | k + 1, x0, x3 => if 0 ≤ x3 then (if x3 < (x0.size : Int) then ((spec_l1Digit.f (bt x0 x3)).bind fun a2 => (if a2 = true then (spec_l3Part.l0 k x0 (wrap64 (x3 + 1))) else ((spec_l1Small.f (bt x0 x3)).bind fun a3 => (if a3 = true then (spec_l3Part.l0 k x0 (wrap64 (x3 + 1))) else ((spec_l1In.f (wrap64 (bt x0 x3)) 65 90).bind fun a4 => (if a4 = true then (spec_l3Part.l0 k x0 (wrap64 (x3 + 1))) else (if (bt x0 x3) = 45 then (spec_l3Part.l0 k x0 (wrap64 (x3 + 1))) else (some false)))))))) else (none)) else (none)
end
def spec_l3Part.f (k : Nat) (a0 : ByteArray) : Option (Bool) := spec_l3Part.l0 k a0 0
theorem spec_l3Part.calls (k : Nat) (a0 : ByteArray) (r : Bool) (w : World) (h : spec_l3Part.f k a0 = some r) :
  Calls Tryz.prog 119 #[.string a0] w fun e w' => e = .returned (.bool r) ∧ Drawn0 w w' := by
 unfold spec_l3Part.f at h
 have H := h
 clear h
 have H' := Aside0.mk H
 clear H
 go_enter Tryz.func119, Tryz.ntmps119
 go_wp2
 go_loopg [3] k (fun kq v3 w' => ∃ (a1 : Int), v3 = .int .i64 a1 ∧ Aside0 (spec_l3Part.l0 kq a0 a1 = some r) ∧ Aside0 (kq ≤ k) ∧ Drawn0 w w')
 case atStart => exact ⟨(0), zS, H', ⟨Nat.le_refl _⟩, by repeat (first | exact Drawn0.refl _ | apply Drawn0.step)⟩
 case round =>
  clear H'
  try clear c1
  obtain ⟨a1, rfl, HA, a6, ⟨m1, rfl⟩⟩ := hrel
  cases gk with
  | zero => exact absurd HA.out (by simp [spec_l3Part.l0])
  | succ k1 =>
   have H := HA.out
   clear HA
   simp only [spec_l3Part.l0] at H
   have b9 := Aside0.mk H
   clear H
   go_upto_if 7 with (fail)
   go_cut [] (fun wc => ∃ (kq : Nat), Aside0 (spec_l3Part.j1 kq a0 a1 = some r) ∧ Aside0 (kq ≤ k1) ∧ Drawn0 w wc)
   case first =>
    have H := b9.out
    clear b9
    replace H := zI0 H
    rcases H with ⟨b0, H⟩ | ⟨b0, H⟩
    ·(first | rw [b0] | (simp only [i64_w, i32_w]; rw [b0]) | skip)
     have H' := Aside0.mk H
     clear H
     go_wp2
     go_meet
     case rel => exact ⟨_, (by first | exact H' | (subst_vars; exact H')), ⟨by have := a6.out; first | omega | exact Nat.le_refl _⟩, by repeat (first | exact Drawn0.refl _ | apply Drawn0.step)⟩
    ·(first | rw [b0] | (simp only [i64_w, i32_w]; rw [b0]) | skip)
     replace H := zj H
     obtain ⟨d9, A4, H⟩ := H
     try dsimp only at H
     replace H := zB0 H
     rcases H with ⟨rfl, H⟩ | ⟨rfl, H⟩
     ·replace H := zj H
      obtain ⟨e0, A6, H⟩ := H
      try dsimp only at H
      replace H := zB0 H
      rcases H with ⟨rfl, H⟩ | ⟨rfl, H⟩
      ·replace H := zI1 H
       rcases H with ⟨c8, H⟩ | ⟨c8, H⟩
       ·have c6 := beq_iff_eq.mpr c8
        have d0 := bne_eq_false_iff_eq.mpr c8
        clear c8
        obtain rfl := Option.some.inj H
        go_wp2_with (first | ((with_reducible refine zq 104 ?_); refine zg (some 38) Tryz.func104 #[.int .i64 (a0.size : Int), .int .i64 1, .int .i64 8] ?_; (with_reducible refine (spec_l1In.calls (a0.size : Int) 1 8 true _ A4.out).mono ?_); rintro e w' ⟨rfl, ⟨nd, rfl⟩⟩; refine ⟨_, rfl, ?_⟩) | (go_at_call 150; (with_reducible refine (spec_l3Digits.calls k1 a0 true _ A6.out).mono ?_); rintro e w' ⟨rfl, ⟨nd, rfl⟩⟩))
        go_ret
        exact ⟨by first | rfl | (simp; done) | (simp [*]; done) | (simp; rw [Bool.eq_iff_iff]; simp; done), by repeat (first | exact Drawn0.refl _ | apply Drawn0.step)⟩
       ·have c6 := beq_eq_false_iff_ne.mpr c8
        have d0 := bne_iff_ne.mpr c8
        replace H := zC0 H
        obtain ⟨c9, H⟩ := H
        have d2 := decide_eq_true c9
        have d3 : decide (0 < a0.size) = true := decide_eq_true (by omega)
        clear c9
        obtain rfl := Option.some.inj H
        go_wp2_with (first | ((with_reducible refine zq 104 ?_); refine zg (some 38) Tryz.func104 #[.int .i64 (a0.size : Int), .int .i64 1, .int .i64 8] ?_; (with_reducible refine (spec_l1In.calls (a0.size : Int) 1 8 true _ A4.out).mono ?_); rintro e w' ⟨rfl, ⟨nd, rfl⟩⟩; refine ⟨_, rfl, ?_⟩) | (go_at_call 150; (with_reducible refine (spec_l3Digits.calls k1 a0 true _ A6.out).mono ?_); rintro e w' ⟨rfl, ⟨nd, rfl⟩⟩; have c0 : 0 ≤ (0 : Int) := (by omega); have b5 : 0 < a0.size := (by have : (0 : Int) < (a0.size : Int) := zD; omega); have d4 : ∀ h : 0 < a0.size, ((a0[0]'h).toNat : Int) = bt a0 0 := bt_at a0 0; clear c0; have d5 : (0 < (a0.size : Int)) = True := eq_true (zD); replace b5 := eq_true b5))
        go_ret
        exact ⟨by first | rfl | (simp; done) | (simp [*]; done) | (simp; rw [Bool.eq_iff_iff]; simp; done), by repeat (first | exact Drawn0.refl _ | apply Drawn0.step)⟩
      ·obtain rfl := Option.some.inj H
       go_wp2_with (first | ((with_reducible refine zq 104 ?_); refine zg (some 38) Tryz.func104 #[.int .i64 (a0.size : Int), .int .i64 1, .int .i64 8] ?_; (with_reducible refine (spec_l1In.calls (a0.size : Int) 1 8 true _ A4.out).mono ?_); rintro e w' ⟨rfl, ⟨nd, rfl⟩⟩; refine ⟨_, rfl, ?_⟩) | (go_at_call 150; (with_reducible refine (spec_l3Digits.calls k1 a0 false _ A6.out).mono ?_); rintro e w' ⟨rfl, ⟨nd, rfl⟩⟩))
       go_ret
       exact ⟨by first | rfl | (simp; done) | (simp [*]; done) | (simp; rw [Bool.eq_iff_iff]; simp; done), by repeat (first | exact Drawn0.refl _ | apply Drawn0.step)⟩
     ·obtain rfl := Option.some.inj H
      go_wp2_with (first | ((with_reducible refine zq 104 ?_); refine zg (some 38) Tryz.func104 #[.int .i64 (a0.size : Int), .int .i64 1, .int .i64 8] ?_; (with_reducible refine (spec_l1In.calls (a0.size : Int) 1 8 false _ A4.out).mono ?_); rintro e w' ⟨rfl, ⟨nd, rfl⟩⟩; refine ⟨_, rfl, ?_⟩))
      go_ret
      exact ⟨by first | rfl | (simp; done) | (simp [*]; done) | (simp; rw [Bool.eq_iff_iff]; simp; done), by repeat (first | exact Drawn0.refl _ | apply Drawn0.step)⟩
   case rest =>
    clear b9
    try clear c1
    try clear p1
    try clear q1
    try clear hx1
    try clear qi1
    try clear p2
    try clear c3
    try clear b0
    try clear c5
    try clear c7
    try clear c8
    try clear c6
    try clear d0
    try clear c9
    try clear d2
    try clear d3
    try clear c10
    try clear c0
    try clear b5
    try clear d4
    try clear d5
    try clear c0
    try clear b5
    obtain ⟨kq, HA, a7, ⟨e1, rfl⟩⟩ := hcut
    cases kq with
    | zero => exact absurd HA.out (by simp [spec_l3Part.j1])
    | succ b6 =>
     have H := HA.out
     clear HA
     simp only [spec_l3Part.j1] at H
     replace H := zD0 H
     obtain ⟨e2, H⟩ := H
     replace H := zD0 H
     obtain ⟨e3, H⟩ := H
     replace H := zj H
     obtain ⟨e4, b2, H⟩ := H
     try dsimp only at H
     replace H := zB0 H
     rcases H with ⟨rfl, H⟩ | ⟨rfl, H⟩
     ·have H' := Aside0.mk H
      clear H
      have a2 : 0 ≤ (a1 : Int) := zD
      have a3 : a1 < (a0.size : Int) := zD
      have b7 := bt_at a0 a1
      replace a2 := eq_true a2
      replace a3 := eq_true a3
      go_wp2_with (first | ((with_reducible refine zq 108 ?_); refine zg (some 13) Tryz.func108 #[.int .u8 (bt a0 a1)] ?_; (with_reducible refine (spec_l1Digit.calls (bt a0 a1) true _ b2.out).mono ?_); rintro e w' ⟨rfl, ⟨nd, rfl⟩⟩; refine ⟨_, rfl, ?_⟩))
      go_roundg b6
      case measure => have := a6.out; have := a7.out; omega
      case rel => exact ⟨(wrap64 (a1 + 1)), zS, H', ⟨by have := a6.out; have := a7.out; omega⟩, by repeat (first | exact Drawn0.refl _ | apply Drawn0.step)⟩
     ·replace H := zj H
      obtain ⟨e5, b8, H⟩ := H
      try dsimp only at H
      replace H := zB0 H
      rcases H with ⟨rfl, H⟩ | ⟨rfl, H⟩
      ·have H' := Aside0.mk H
       clear H
       have a2 : 0 ≤ (a1 : Int) := zD
       have a3 : a1 < (a0.size : Int) := zD
       have b7 := bt_at a0 a1
       replace a2 := eq_true a2
       replace a3 := eq_true a3
       go_wp2_with (first | ((with_reducible refine zq 108 ?_); refine zg (some 13) Tryz.func108 #[.int .u8 (bt a0 a1)] ?_; (with_reducible refine (spec_l1Digit.calls (bt a0 a1) false _ b2.out).mono ?_); rintro e w' ⟨rfl, ⟨nd, rfl⟩⟩; refine ⟨_, rfl, ?_⟩; have a4 : 0 ≤ (a1 : Int) := zD; have a5 : a1 < (a0.size : Int) := zD; have c2 := bt_at a0 a1; replace a4 := eq_true a4; replace a5 := eq_true a5) | (go_at_call 107; (with_reducible refine (spec_l1Small.calls (bt a0 a1) true _ b8.out).mono ?_); rintro e w' ⟨rfl, ⟨nd, rfl⟩⟩))
       go_roundg b6
       case measure => have := a6.out; have := a7.out; omega
       case rel => exact ⟨(wrap64 (a1 + 1)), zS, H', ⟨by have := a6.out; have := a7.out; omega⟩, by repeat (first | exact Drawn0.refl _ | apply Drawn0.step)⟩
      ·replace H := zj H
       obtain ⟨e6, c4, H⟩ := H
       try dsimp only at H
       replace H := zB0 H
       rcases H with ⟨rfl, H⟩ | ⟨rfl, H⟩
       ·have H' := Aside0.mk H
        clear H
        have a2 : 0 ≤ (a1 : Int) := zD
        have a3 : a1 < (a0.size : Int) := zD
        have b7 := bt_at a0 a1
        replace a2 := eq_true a2
        replace a3 := eq_true a3
        go_wp2_with (first | ((with_reducible refine zq 108 ?_); refine zg (some 13) Tryz.func108 #[.int .u8 (bt a0 a1)] ?_; (with_reducible refine (spec_l1Digit.calls (bt a0 a1) false _ b2.out).mono ?_); rintro e w' ⟨rfl, ⟨nd, rfl⟩⟩; refine ⟨_, rfl, ?_⟩; have a4 : 0 ≤ (a1 : Int) := zD; have a5 : a1 < (a0.size : Int) := zD; have c2 := bt_at a0 a1; replace a4 := eq_true a4; replace a5 := eq_true a5) | (go_at_call 107; (with_reducible refine (spec_l1Small.calls (bt a0 a1) false _ b8.out).mono ?_); rintro e w' ⟨rfl, ⟨nd, rfl⟩⟩; have a8 : 0 ≤ (a1 : Int) := zD; have a9 : a1 < (a0.size : Int) := zD; have d1 := bt_at a0 a1; replace a8 := eq_true a8; replace a9 := eq_true a9) | (go_at_call 104; (with_reducible refine (spec_l1In.calls (wrap64 (bt a0 a1)) 65 90 true _ c4.out).mono ?_); rintro e w' ⟨rfl, ⟨nd, rfl⟩⟩))
        go_roundg b6
        case measure => have := a6.out; have := a7.out; omega
        case rel => exact ⟨(wrap64 (a1 + 1)), zS, H', ⟨by have := a6.out; have := a7.out; omega⟩, by repeat (first | exact Drawn0.refl _ | apply Drawn0.step)⟩
       ·replace H := zI1 H
        rcases H with ⟨b1, H⟩ | ⟨b1, H⟩
        ·have d6 := beq_iff_eq.mpr b1
         have d7 := bne_eq_false_iff_eq.mpr b1
         clear b1
         have H' := Aside0.mk H
         clear H
         have a2 : 0 ≤ (a1 : Int) := zD
         have a3 : a1 < (a0.size : Int) := zD
         have b7 := bt_at a0 a1
         replace a2 := eq_true a2
         replace a3 := eq_true a3
         go_wp2_with (first | ((with_reducible refine zq 108 ?_); refine zg (some 13) Tryz.func108 #[.int .u8 (bt a0 a1)] ?_; (with_reducible refine (spec_l1Digit.calls (bt a0 a1) false _ b2.out).mono ?_); rintro e w' ⟨rfl, ⟨nd, rfl⟩⟩; refine ⟨_, rfl, ?_⟩; have a4 : 0 ≤ (a1 : Int) := zD; have a5 : a1 < (a0.size : Int) := zD; have c2 := bt_at a0 a1; replace a4 := eq_true a4; replace a5 := eq_true a5) | (go_at_call 107; (with_reducible refine (spec_l1Small.calls (bt a0 a1) false _ b8.out).mono ?_); rintro e w' ⟨rfl, ⟨nd, rfl⟩⟩; have a8 : 0 ≤ (a1 : Int) := zD; have a9 : a1 < (a0.size : Int) := zD; have d1 := bt_at a0 a1; replace a8 := eq_true a8; replace a9 := eq_true a9) | (go_at_call 104; (with_reducible refine (spec_l1In.calls (wrap64 (bt a0 a1)) 65 90 false _ c4.out).mono ?_); rintro e w' ⟨rfl, ⟨nd, rfl⟩⟩; have b3 : 0 ≤ (a1 : Int) := zD; have b4 : a1 < (a0.size : Int) := zD; have d8 := bt_at a0 a1; replace b3 := eq_true b3; replace b4 := eq_true b4))
         go_roundg b6
         case measure => have := a6.out; have := a7.out; omega
         case rel => exact ⟨(wrap64 (a1 + 1)), zS, H', ⟨by have := a6.out; have := a7.out; omega⟩, by repeat (first | exact Drawn0.refl _ | apply Drawn0.step)⟩
        ·have d6 := beq_eq_false_iff_ne.mpr b1
         have d7 := bne_iff_ne.mpr b1
         obtain rfl := Option.some.inj H
         have a2 : 0 ≤ (a1 : Int) := zD
         have a3 : a1 < (a0.size : Int) := zD
         have b7 := bt_at a0 a1
         replace a2 := eq_true a2
         replace a3 := eq_true a3
         go_wp2_with (first | ((with_reducible refine zq 108 ?_); refine zg (some 13) Tryz.func108 #[.int .u8 (bt a0 a1)] ?_; (with_reducible refine (spec_l1Digit.calls (bt a0 a1) false _ b2.out).mono ?_); rintro e w' ⟨rfl, ⟨nd, rfl⟩⟩; refine ⟨_, rfl, ?_⟩; have a4 : 0 ≤ (a1 : Int) := zD; have a5 : a1 < (a0.size : Int) := zD; have c2 := bt_at a0 a1; replace a4 := eq_true a4; replace a5 := eq_true a5) | (go_at_call 107; (with_reducible refine (spec_l1Small.calls (bt a0 a1) false _ b8.out).mono ?_); rintro e w' ⟨rfl, ⟨nd, rfl⟩⟩; have a8 : 0 ≤ (a1 : Int) := zD; have a9 : a1 < (a0.size : Int) := zD; have d1 := bt_at a0 a1; replace a8 := eq_true a8; replace a9 := eq_true a9) | (go_at_call 104; (with_reducible refine (spec_l1In.calls (wrap64 (bt a0 a1)) 65 90 false _ c4.out).mono ?_); rintro e w' ⟨rfl, ⟨nd, rfl⟩⟩; have b3 : 0 ≤ (a1 : Int) := zD; have b4 : a1 < (a0.size : Int) := zD; have d8 := bt_at a0 a1; replace b3 := eq_true b3; replace b4 := eq_true b4))
         go_ret
         exact ⟨by first | rfl | (simp; done) | (simp [*]; done) | (simp; rw [Bool.eq_iff_iff]; simp; done), by repeat (first | exact Drawn0.refl _ | apply Drawn0.step)⟩
/-! ### spec_VerOk: function 68 -/
def spec_VerOk.l0 : Nat → Int → Int → Int → Int → List ByteArray → Option (Bool)
 | 0, _, _, _, _, _ => none
 | k + 1, x3, a1, a2, a3, a0 => if x3 < (a0.length : Int) then (if 0 ≤ x3 then ((spec_l3Part.f k (rdOf ByteArray.empty a0 x3)).bind fun a4 => (if a4 = true then (spec_VerOk.l0 k (wrap64 (x3 + 1)) a1 a2 a3 a0) else (some false))) else (none)) else ((spec_l1In.f a1 0 9999).bind fun a5 => (if a5 = true then ((spec_l1In.f a2 0 9999).bind fun a6 => (if a6 = true then ((spec_l1In.f a3 0 9999).bind fun a7 => (if a7 = true then (some (decide ((a0.length : Int) ≤ 3))) else (some false))) else (some false))) else (some false)))
def spec_VerOk.f (k : Nat) (a0 a1 a2 : Int) (a3 : List ByteArray) : Option (Bool) := spec_VerOk.l0 k 0 a0 a1 a2 a3
theorem spec_VerOk.calls (k : Nat) (a2 a4 a5 : Int) (a9 : Option Addr) (b0 : Nat) (a0 : List ByteArray) (r : Bool) (w : World) (b3 : Kd.C Kd.string w a9 a0.length a0) (b4 : a0.length ≤ b0) (h : spec_VerOk.f k a2 a4 a5 a0 = some r) :
  Calls Tryz.prog 68 #[.agg #[.int .i64 a2, .int .i64 a4, .int .i64 a5, .slice a9 a0.length b0]] w fun e w' => e = .returned (.bool r) ∧ Below w.heap.size w w' := by
 have c1 := Tryz.underlying32
 have b5 := Aside0.mk b3
 have c2 := Aside0.mk b4
 clear b3 b4
 have HB := zA (Below.refl w.heap.size w)
 unfold spec_VerOk.f at h
 have H := h
 clear h
 have H' := Aside0.mk H
 clear H
 go_enter Tryz.func68, Tryz.ntmps68
 go_wp2_with (first | ((with_reducible refine gate_dst (N := 1) rfl ?_); (try (refine gate_guard (by rfl) ?_; dsimp only)); refine box_event ?hg (N := 1) ?hd (cs := #[.int .i64 a2, .int .i64 a4, .int .i64 a5, .slice a9 a0.length b0]) (t := 32) ?hr ?_; (case hd => rfl); (case hg => rfl); (case hr => first | (go_simp; done) | (go_simp; rfl)); intro b8 hg w2 hbox hb; have a3 := zA (hbox); have c3 := zi HB hg; have c4 := zi HB hg; replace HB := zA (below_step (zB) hb); clear hb hbox hg))
 go_loopg [3] k (fun kq v3 w' => ∃ (a1 : Int), v3 = .int .i64 a1 ∧ Aside0 (spec_VerOk.l0 kq a1 a2 a4 a5 a0 = some r) ∧ Aside0 (kq ≤ k) ∧ Aside0 (w'.heap[b8]? = some (.cells #[.int .i64 a2, .int .i64 a4, .int .i64 a5, (.slice a9 a0.length b0)] 32 (0, 0))) ∧ Aside0 (Below w.heap.size w w'))
 case atStart => exact ⟨(0), zS, H', ⟨Nat.le_refl _⟩, ⟨zK a3.out⟩, ⟨zW HB.out⟩⟩
 case round =>
  clear H'
  try clear p2
  obtain ⟨a1, rfl, HA, b6, a3, HB⟩ := hrel
  cases gk with
  | zero => exact absurd HA.out (by simp [spec_VerOk.l0])
  | succ k1 =>
   have H := HA.out
   clear HA
   simp only [spec_VerOk.l0] at H
   replace H := zI0 H
   rcases H with ⟨b9, H⟩ | ⟨b9, H⟩
   ·replace H := zD0 H
    obtain ⟨c5, H⟩ := H
    replace H := zj H
    obtain ⟨c6, A5, H⟩ := H
    try dsimp only at H
    replace H := zB0 H
    rcases H with ⟨rfl, H⟩ | ⟨rfl, H⟩
    ·have H' := Aside0.mk H
     clear H
     obtain ⟨c7, c8, c9, d0, d1, d2, d3, d4⟩ := ze4 a3.out
     have a6 : 0 ≤ (a1 : Int) := zD
     have a7 : a1 < (a0.length : Int) := zD
     obtain ⟨c0, b1, a8⟩ := Kd.at_string b5.out a1 a6 a7
     cases b1
     replace a8 := zx HB a8
     replace a6 := eq_true a6
     replace a7 := eq_true a7
     go_wp2_with (first | ((with_reducible refine zq 119 ?_); refine zg (some 16) Tryz.func119 #[.string (rdOf ByteArray.empty a0 a1)] ?_; (with_reducible refine (spec_l3Part.calls k1 (rdOf ByteArray.empty a0 a1) true _ A5.out).mono ?_); rintro e w' ⟨rfl, ⟨nd, rfl⟩⟩; refine ⟨_, rfl, ?_⟩))
     go_roundg k1
     case measure => have := b6.out; omega
     case rel => exact ⟨(wrap64 (a1 + 1)), zS, H', ⟨by have := b6.out; omega⟩, ⟨zK a3.out⟩, ⟨zW HB.out⟩⟩
    ·obtain rfl := Option.some.inj H
     obtain ⟨d5, d6, d7, d8, d9, e0, e1, e2⟩ := ze4 a3.out
     have a6 : 0 ≤ (a1 : Int) := zD
     have a7 : a1 < (a0.length : Int) := zD
     obtain ⟨c0, b1, a8⟩ := Kd.at_string b5.out a1 a6 a7
     cases b1
     replace a8 := zx HB a8
     replace a6 := eq_true a6
     replace a7 := eq_true a7
     go_wp2_with (first | ((with_reducible refine zq 119 ?_); refine zg (some 16) Tryz.func119 #[.string (rdOf ByteArray.empty a0 a1)] ?_; (with_reducible refine (spec_l3Part.calls k1 (rdOf ByteArray.empty a0 a1) false _ A5.out).mono ?_); rintro e w' ⟨rfl, ⟨nd, rfl⟩⟩; refine ⟨_, rfl, ?_⟩))
     go_ret
     exact ⟨zE, zW HB.out⟩
   ·replace H := zj H
    obtain ⟨e3, A9, H⟩ := H
    try dsimp only at H
    replace H := zB0 H
    rcases H with ⟨rfl, H⟩ | ⟨rfl, H⟩
    ·replace H := zj H
     obtain ⟨e4, b2, H⟩ := H
     try dsimp only at H
     replace H := zB0 H
     rcases H with ⟨rfl, H⟩ | ⟨rfl, H⟩
     ·replace H := zj H
      obtain ⟨e5, b7, H⟩ := H
      try dsimp only at H
      replace H := zB0 H
      rcases H with ⟨rfl, H⟩ | ⟨rfl, H⟩
      ·obtain rfl := Option.some.inj H
       obtain ⟨e6, e7, e8, e9, f0, f1, f2, f3⟩ := ze4 a3.out
       go_wp2_with (first | ((with_reducible refine zq 104 ?_); refine zg (some 20) Tryz.func104 #[.int .i64 a2, .int .i64 0, .int .i64 9999] ?_; (with_reducible refine (spec_l1In.calls a2 0 9999 true _ A9.out).mono ?_); rintro e w' ⟨rfl, ⟨nd, rfl⟩⟩; refine ⟨_, rfl, ?_⟩) | (go_at_call 104; (with_reducible refine (spec_l1In.calls a4 0 9999 true _ b2.out).mono ?_); rintro e w' ⟨rfl, ⟨nd, rfl⟩⟩) | (go_at_call 104; (with_reducible refine (spec_l1In.calls a5 0 9999 true _ b7.out).mono ?_); rintro e w' ⟨rfl, ⟨nd, rfl⟩⟩))
       go_ret
       exact ⟨zE, zW HB.out⟩
      ·obtain rfl := Option.some.inj H
       obtain ⟨f4, f5, f6, f7, f8, f9, g0, g1⟩ := ze4 a3.out
       go_wp2_with (first | ((with_reducible refine zq 104 ?_); refine zg (some 20) Tryz.func104 #[.int .i64 a2, .int .i64 0, .int .i64 9999] ?_; (with_reducible refine (spec_l1In.calls a2 0 9999 true _ A9.out).mono ?_); rintro e w' ⟨rfl, ⟨nd, rfl⟩⟩; refine ⟨_, rfl, ?_⟩) | (go_at_call 104; (with_reducible refine (spec_l1In.calls a4 0 9999 true _ b2.out).mono ?_); rintro e w' ⟨rfl, ⟨nd, rfl⟩⟩) | (go_at_call 104; (with_reducible refine (spec_l1In.calls a5 0 9999 false _ b7.out).mono ?_); rintro e w' ⟨rfl, ⟨nd, rfl⟩⟩))
       go_ret
       exact ⟨zE, zW HB.out⟩
     ·obtain rfl := Option.some.inj H
      obtain ⟨g2, g3, g4, g5, g6, g7, g8, g9⟩ := ze4 a3.out
      go_wp2_with (first | ((with_reducible refine zq 104 ?_); refine zg (some 20) Tryz.func104 #[.int .i64 a2, .int .i64 0, .int .i64 9999] ?_; (with_reducible refine (spec_l1In.calls a2 0 9999 true _ A9.out).mono ?_); rintro e w' ⟨rfl, ⟨nd, rfl⟩⟩; refine ⟨_, rfl, ?_⟩) | (go_at_call 104; (with_reducible refine (spec_l1In.calls a4 0 9999 false _ b2.out).mono ?_); rintro e w' ⟨rfl, ⟨nd, rfl⟩⟩))
      go_ret
      exact ⟨zE, zW HB.out⟩
    ·obtain rfl := Option.some.inj H
     obtain ⟨h0, h1, h2, h3, h4, h5, h6, h7⟩ := ze4 a3.out
     go_wp2_with (first | ((with_reducible refine zq 104 ?_); refine zg (some 20) Tryz.func104 #[.int .i64 a2, .int .i64 0, .int .i64 9999] ?_; (with_reducible refine (spec_l1In.calls a2 0 9999 false _ A9.out).mono ?_); rintro e w' ⟨rfl, ⟨nd, rfl⟩⟩; refine ⟨_, rfl, ?_⟩))
     go_ret
     exact ⟨zE, zW HB.out⟩
/-! ### spec_Split: function 78 -/
def spec_Split.l0 : Nat → ByteArray → Int → List ByteArray → Int → Int → Option (List ByteArray)
 | 0, _, _, _, _, _ => none
 | k + 1, x0, x1, x5, x6, x7 => if x7 ≤ (x0.size : Int) then (if x7 = (x0.size : Int) then (if 0 ≤ x6 then (if x6 ≤ x7 then (if x5.length < 8796093022208 then (spec_Split.l0 k x0 x1 (x5 ++ [x0.extract (x6 : Int).toNat (x7 : Int).toNat]) (wrap64 (x7 + 1)) (wrap64 (x7 + 1))) else (none)) else (none)) else (none)) else (if 0 ≤ x7 then (if x7 < (x0.size : Int) then (if (bt x0 x7) = x1 then (if 0 ≤ x6 then (if x6 ≤ x7 then (if x5.length < 8796093022208 then (spec_Split.l0 k x0 x1 (x5 ++ [x0.extract (x6 : Int).toNat (x7 : Int).toNat]) (wrap64 (x7 + 1)) (wrap64 (x7 + 1))) else (none)) else (none)) else (none)) else (spec_Split.l0 k x0 x1 x5 x6 (wrap64 (x7 + 1)))) else (none)) else (none))) else (some x5)
def spec_Split.f (k : Nat) (a0 : ByteArray) (a1 : Int) : Option (List ByteArray) := spec_Split.l0 k a0 a1 (([] : List ByteArray)) 0 0
theorem spec_Split.calls (k : Nat) (a0 : ByteArray) (a1 : Int) (r : List ByteArray) (w : World) (h : spec_Split.f k a0 a1 = some r) :
  Calls Tryz.prog 78 #[.string a0, .int .u8 a1] w fun e w' => ∃ b6 : Value, e = .returned (b6) ∧ Kd.R Kd.string 9 w' w.heap.size (fun _ => True) b6 r ∧ Below w.heap.size w w' := by
 have HB := zA (Below.refl w.heap.size w)
 unfold spec_Split.f at h
 have H := h
 clear h
 obtain ⟨b7, b1⟩ : ∃ y_ : List ByteArray, y_ = (([] : List ByteArray)) := ⟨_, rfl⟩
 replace H : (spec_Split.l0 k a0 a1 b7 0 0) = some r := zY b1 H
 have b8 := Aside0.mk b1
 clear b1
 have H' := Aside0.mk H
 clear H
 go_enter Tryz.func78, Tryz.ntmps78
 go_wp2_with (first | ((with_reducible refine gate_dst (N := 8) rfl ?_); refine Kd.R_lit Kd.string _ 9 ?hg (N := 8) ?hd (xs := ([] : List ByteArray)) (inner := []) (ok := fun _ => True) ?hr ?hp (fun _ hk => hk) trivial (Below.refl _ _) (Nat.le_refl _) (by simp) ?_; (case hd => rfl); (case hg => rfl); (case hr => first | (go_simp; done) | (go_simp; rfl)); (case hp => exact (Reps.none _ _)); intro d9 w3 a8 hb hg_ hnew_; clear hg_ hnew_; (first | rw [← b8.out] at a8 | (simp only [Int.reduceToNat] at a8; rw [← b8.out] at a8)); have c3 := zA (Kd.R_lower a8 (below_size (zB))); replace HB := zA (below_step (zB) hb); clear hb a8))
 go_loopg [5, 6, 7] k (fun kq v5 v6 v7 w' => ∃ (a4 : List ByteArray) (a3 : Int) (a2 : Int), v6 = .int .i64 a3 ∧ v7 = .int .i64 a2 ∧ Aside0 (spec_Split.l0 kq a0 a1 a4 a3 a2 = some r) ∧ Aside0 (kq ≤ k) ∧ Aside0 (Kd.R Kd.string 9 w' w.heap.size (fun _ => True) v5 a4) ∧ Aside0 (Below w.heap.size w w'))
 case atStart => exact ⟨(b7), (0), (0), zS, zS, H', ⟨Nat.le_refl _⟩, ⟨zR c3.out⟩, ⟨zB⟩⟩
 case round =>
  clear H'
  try clear p2
  obtain ⟨a4, a3, a2, rfl, rfl, HA, a5, a6, HB⟩ := hrel
  cases gk with
  | zero => exact absurd HA.out (by simp [spec_Split.l0])
  | succ k1 =>
   have H := HA.out
   clear HA
   simp only [spec_Split.l0] at H
   replace H := zI0 H
   rcases H with ⟨c4, H⟩ | ⟨c4, H⟩
   ·replace H := zI1 H
    rcases H with ⟨c6, H⟩ | ⟨c6, H⟩
    ·have c5 := beq_iff_eq.mpr c6
     have c9 := bne_eq_false_iff_eq.mpr c6
     clear c6
     replace H := zC0 H
     obtain ⟨c7, H⟩ := H
     have e0 := eq_true c7
     have e1 := decide_eq_true c7
     clear c7
     replace H := zC0 H
     obtain ⟨c8, H⟩ := H
     have e2 := eq_true c8
     have e3 := decide_eq_true c8
     clear c8
     have e4 := eq_true (zD : a2 ≤ (a0.size : Int))
     replace H := zC0 H
     obtain ⟨b9, H⟩ := H
     have d0 := Aside0.mk b9
     clear b9
     obtain ⟨c0, b2⟩ : ∃ y_ : List ByteArray, y_ = (a4 ++ [a0.extract (a3 : Int).toNat (a2 : Int).toNat]) := ⟨_, rfl⟩
     replace H : (spec_Split.l0 k1 a0 a1 c0 (wrap64 (a2 + 1)) (wrap64 (a2 + 1))) = some r := zY b2 H
     have d1 := Aside0.mk b2
     clear b2
     have H' := Aside0.mk H
     clear H
     go_wp2_with (first | ((with_reducible refine gate_builtin (b := .append) (xs := #[.tmp 26, .tmp 31]) rfl ?_); at_builtin; refine Kd.R_append Kd.string (w0 := w) w.heap.size rfl (.tmp 26) (.tmp 31) 24 9 (.string ⟨#[]⟩) 16 rfl Tryz.underlying24 info9 rfl (by decide) (by omega) u5 a4 (a0.extract (a3 : Int).toNat (a2 : Int).toNat) [.string (a0.extract (a3 : Int).toNat (a2 : Int).toNat)] (fun _ => True) (fun _ => False) rfl rfl ?aP (fun _ hk => hk.elim) ?aF ?aO ?aB ?aS ?aL ?_; (case aP => exact rfl); (case aB => exact (zB)); (case aF => exact (fun _ _ => trivial)); (case aO => exact (zR a6.out)); (case aS => exact (below_size (zB))); (case aL => have := d0.out; omega); intro e5 e6 ho hb hg hat; rw [← d1.out] at ho; replace HB := zA (hb); have d2 := zA (ho); clear a6; clear ho hb hg hat))
     go_roundg k1
     case measure => have := a5.out; omega
     case rel => exact ⟨(c0), (wrap64 (a2 + 1)), (wrap64 (a2 + 1)), zS, zS, H', ⟨by have := a5.out; omega⟩, ⟨zR d2.out⟩, ⟨zB⟩⟩
    ·have c5 := beq_eq_false_iff_ne.mpr c6
     have c9 := bne_iff_ne.mpr c6
     replace H := zD0 H
     obtain ⟨e7, H⟩ := H
     replace H := zD0 H
     obtain ⟨e8, H⟩ := H
     replace H := zI1 H
     rcases H with ⟨a7, H⟩ | ⟨a7, H⟩
     ·have d3 := beq_iff_eq.mpr a7
      have d4 := bne_eq_false_iff_eq.mpr a7
      clear a7
      replace H := zC0 H
      obtain ⟨b3, H⟩ := H
      have e9 := eq_true b3
      have f0 := decide_eq_true b3
      clear b3
      replace H := zC0 H
      obtain ⟨b4, H⟩ := H
      have f1 := eq_true b4
      have f2 := decide_eq_true b4
      clear b4
      have f3 := eq_true (zD : a2 ≤ (a0.size : Int))
      replace H := zC0 H
      obtain ⟨c1, H⟩ := H
      have d5 := Aside0.mk c1
      clear c1
      obtain ⟨c2, b5⟩ : ∃ y_ : List ByteArray, y_ = (a4 ++ [a0.extract (a3 : Int).toNat (a2 : Int).toNat]) := ⟨_, rfl⟩
      replace H : (spec_Split.l0 k1 a0 a1 c2 (wrap64 (a2 + 1)) (wrap64 (a2 + 1))) = some r := zY b5 H
      have d6 := Aside0.mk b5
      clear b5
      have H' := Aside0.mk H
      clear H
      have a9 : 0 ≤ (a2 : Int) := zD
      have b0 : a2 < (a0.size : Int) := zD
      have d7 := bt_at a0 a2
      replace a9 := eq_true a9
      replace b0 := eq_true b0
      go_wp2_with (first | ((with_reducible refine gate_builtin (b := .append) (xs := #[.tmp 26, .tmp 31]) rfl ?_); at_builtin; refine Kd.R_append Kd.string (w0 := w) w.heap.size rfl (.tmp 26) (.tmp 31) 24 9 (.string ⟨#[]⟩) 16 rfl Tryz.underlying24 info9 rfl (by decide) (by omega) u5 a4 (a0.extract (a3 : Int).toNat (a2 : Int).toNat) [.string (a0.extract (a3 : Int).toNat (a2 : Int).toNat)] (fun _ => True) (fun _ => False) rfl rfl ?aP (fun _ hk => hk.elim) ?aF ?aO ?aB ?aS ?aL ?_; (case aP => exact rfl); (case aB => exact (zB)); (case aF => exact (fun _ _ => trivial)); (case aO => exact (zR a6.out)); (case aS => exact (below_size (zB))); (case aL => have := d5.out; omega); intro f4 f5 ho hb hg hat; rw [← d6.out] at ho; replace HB := zA (hb); have d8 := zA (ho); clear a6; clear ho hb hg hat))
      go_roundg k1
      case measure => have := a5.out; omega
      case rel => exact ⟨(c2), (wrap64 (a2 + 1)), (wrap64 (a2 + 1)), zS, zS, H', ⟨by have := a5.out; omega⟩, ⟨zR d8.out⟩, ⟨zB⟩⟩
     ·have d3 := beq_eq_false_iff_ne.mpr a7
      have d4 := bne_iff_ne.mpr a7
      have H' := Aside0.mk H
      clear H
      have a9 : 0 ≤ (a2 : Int) := zD
      have b0 : a2 < (a0.size : Int) := zD
      have d7 := bt_at a0 a2
      replace a9 := eq_true a9
      replace b0 := eq_true b0
      go_wp2
      go_roundg k1
      case measure => have := a5.out; omega
      case rel => exact ⟨(a4), (a3), (wrap64 (a2 + 1)), zS, zS, H', ⟨by have := a5.out; omega⟩, ⟨zR a6.out⟩, ⟨zB⟩⟩
   ·obtain rfl := Option.some.inj H
    go_wp2
    go_ret
    exact ⟨_, zE, zR a6.out, zB⟩
/-! ### spec_ParseNum: function 152 -/
mutual
def spec_ParseNum.l0 : Nat → ByteArray → Int → Int → Int → Option (Int × Bool)
 | 0, _, _, _, _ => none
 | k + 1, x0, x1, x6, x7 => if x7 < (x0.size : Int) then (spec_ParseNum.j1 k x0 x1 x6 x7 (decide (x7 < 8))) else (spec_ParseNum.j1 k x0 x1 x6 x7 false)
def spec_ParseNum.j1 : Nat → ByteArray → Int → Int → Int → Bool → Option (Int × Bool)
 | 0, _, _, _, _, _ => none
 | k + 1, x0, x1, x6, x7, a0 => if a0 = true then (if 0 ≤ x7 then (if x7 < (x0.size : Int) then ((spec_l1Digit.f (bt x0 x7)).bind fun a1 => (if a1 = true then (spec_ParseNum.l0 k x0 x1 (wrap64 ((wrap64 (x6 * 10)) + (((bt x0 x7) - 48) % 256))) (wrap64 (x7 + 1))) else (some (0, false)))) else (none)) else (none)) else ((spec_l1In.f (x0.size : Int) 1 7).bind fun a2 => (if a2 = true then (if (x0.size : Int) > 1 then (if 0 < (x0.size : Int) then (if (bt x0 0) = 48 then (some (0, false)) else (if x6 > x1 then (some (0, false)) else (some (x6, true)))) else (none)) else (if x6 > x1 then (some (0, false)) else (some (x6, true)))) else (some (0, false))))
end
def spec_ParseNum.f (k : Nat) (a0 : ByteArray) (a1 : Int) : Option (Int × Bool) := spec_ParseNum.l0 k a0 a1 0 0
theorem spec_ParseNum.calls (k : Nat) (a0 : ByteArray) (a1 r1 : Int) (r2 : Bool) (w : World) (h : spec_ParseNum.f k a0 a1 = some (r1, r2)) :
  Calls Tryz.prog 152 #[.string a0, .int .i64 a1] w fun e w' => e = .returned (.tuple #[.int .i64 r1, .bool r2]) ∧ Drawn0 w w' := by
 unfold spec_ParseNum.f at h
 have H := h
 clear h
 have H' := Aside0.mk H
 clear H
 go_enter Tryz.func152, Tryz.ntmps152
 go_wp2
 go_loopg [6, 7] k (fun kq v6 v7 w' => ∃ (a3 : Int) (a2 : Int), v6 = .int .i64 a3 ∧ v7 = .int .i64 a2 ∧ Aside0 (spec_ParseNum.l0 kq a0 a1 a3 a2 = some (r1, r2)) ∧ Aside0 (kq ≤ k) ∧ Drawn0 w w')
 case atStart => exact ⟨(0), (0), zS, zS, H', ⟨Nat.le_refl _⟩, by repeat (first | exact Drawn0.refl _ | apply Drawn0.step)⟩
 case round =>
  clear H'
  try clear c1
  try clear p2
  obtain ⟨a3, a2, rfl, rfl, HA, b2, ⟨m1, rfl⟩⟩ := hrel
  cases gk with
  | zero => exact absurd HA.out (by simp [spec_ParseNum.l0])
  | succ k1 =>
   have H := HA.out
   clear HA
   simp only [spec_ParseNum.l0] at H
   have b3 := Aside0.mk H
   clear H
   go_upto_region 3 with (fail)
   go_cut [15] (fun c2 wc => ∃ (kq : Nat) (b4 : Bool), c2 = .bool b4 ∧ Aside0 (spec_ParseNum.j1 kq a0 a1 a3 a2 b4 = some (r1, r2)) ∧ Aside0 (kq ≤ k1) ∧ Drawn0 w wc)
   case first =>
    have H := b3.out
    clear b3
    replace H := zI0 H
    rcases H with ⟨a5, H⟩ | ⟨a5, H⟩
    ·(first | rw [a5] | (simp only [i64_w, i32_w]; rw [a5]) | skip)
     have H' := Aside0.mk H
     clear H
     go_wp2
     go_meet
     case rel => exact ⟨_, (decide (a2 < 8)), zS, (by first | exact H' | (subst_vars; exact H')), ⟨by have := b2.out; first | omega | exact Nat.le_refl _⟩, by repeat (first | exact Drawn0.refl _ | apply Drawn0.step)⟩
    ·(first | rw [a5] | (simp only [i64_w, i32_w]; rw [a5]) | skip)
     have H' := Aside0.mk H
     clear H
     go_wp2
     go_meet
     case rel => exact ⟨_, (false), zS, (by first | exact H' | (subst_vars; exact H')), ⟨by have := b2.out; first | omega | exact Nat.le_refl _⟩, by repeat (first | exact Drawn0.refl _ | apply Drawn0.step)⟩
   case rest =>
    clear b3
    try clear c1
    try clear p2
    try clear c4
    try clear a5
    try clear p2
    obtain ⟨kq, b4, rfl, HA, b5, ⟨d2, rfl⟩⟩ := hcut
    cases kq with
    | zero => exact absurd HA.out (by simp [spec_ParseNum.j1])
    | succ c3 =>
     have H := HA.out
     clear HA
     simp only [spec_ParseNum.j1] at H
     replace H := zB0 H
     rcases H with ⟨rfl, H⟩ | ⟨rfl, H⟩
     ·replace H := zD0 H
      obtain ⟨d3, H⟩ := H
      replace H := zD0 H
      obtain ⟨d4, H⟩ := H
      replace H := zj H
      obtain ⟨d5, A9, H⟩ := H
      try dsimp only at H
      replace H := zB0 H
      rcases H with ⟨rfl, H⟩ | ⟨rfl, H⟩
      ·have H' := Aside0.mk H
       clear H
       have p8 : 0 ≤ (a2 : Int) := zD
       have q8 : a2 < (a0.size : Int) := zD
       have c5 := bt_at a0 a2
       replace p8 := eq_true p8
       replace q8 := eq_true q8
       go_wp2_with (first | ((with_reducible refine zq 108 ?_); refine zg (some 21) Tryz.func108 #[.int .u8 (bt a0 a2)] ?_; (with_reducible refine (spec_l1Digit.calls (bt a0 a2) true _ A9.out).mono ?_); rintro e w' ⟨rfl, ⟨nd, rfl⟩⟩; refine ⟨_, rfl, ?_⟩; have b6 : 0 ≤ (a2 : Int) := zD; have b7 : a2 < (a0.size : Int) := zD; have d6 := bt_at a0 a2; replace b6 := eq_true b6; replace b7 := eq_true b7))
       go_roundg c3
       case measure => have := b2.out; have := b5.out; omega
       case rel => exact ⟨(wrap64 ((wrap64 (a3 * 10)) + (((bt a0 a2) - 48) % 256))), (wrap64 (a2 + 1)), zS, zS, H', ⟨by have := b2.out; have := b5.out; omega⟩, by repeat (first | exact Drawn0.refl _ | apply Drawn0.step)⟩
      ·simp only [Option.some.injEq, Prod.mk.injEq] at H
       obtain ⟨rfl, rfl⟩ := H
       have p8 : 0 ≤ (a2 : Int) := zD
       have q8 : a2 < (a0.size : Int) := zD
       have c5 := bt_at a0 a2
       replace p8 := eq_true p8
       replace q8 := eq_true q8
       go_wp2_with (first | ((with_reducible refine zq 108 ?_); refine zg (some 21) Tryz.func108 #[.int .u8 (bt a0 a2)] ?_; (with_reducible refine (spec_l1Digit.calls (bt a0 a2) false _ A9.out).mono ?_); rintro e w' ⟨rfl, ⟨nd, rfl⟩⟩; refine ⟨_, rfl, ?_⟩))
       go_ret2
       exact ⟨by first | rfl | (simp; done) | (simp [*]; done) | (simp; rw [Bool.eq_iff_iff]; simp; done), by repeat (first | exact Drawn0.refl _ | apply Drawn0.step)⟩
     ·replace H := zj H
      obtain ⟨d7, a6, H⟩ := H
      try dsimp only at H
      replace H := zB0 H
      rcases H with ⟨rfl, H⟩ | ⟨rfl, H⟩
      ·replace H := zI1 H
       rcases H with ⟨a8, H⟩ | ⟨a8, H⟩
       ·have c6 : decide (1 < (a0.size : Int)) = true := decide_eq_true a8
        have c7 : decide (1 < a0.size) = true := decide_eq_true (by omega)
        clear a8
        replace H := zC0 H
        obtain ⟨b8, H⟩ := H
        have d8 := decide_eq_true b8
        have d9 : decide (0 < a0.size) = true := decide_eq_true (by omega)
        clear b8
        replace H := zI1 H
        rcases H with ⟨a7, H⟩ | ⟨a7, H⟩
        ·have c8 := beq_iff_eq.mpr a7
         have c9 := bne_eq_false_iff_eq.mpr a7
         clear a7
         simp only [Option.some.injEq, Prod.mk.injEq] at H
         obtain ⟨rfl, rfl⟩ := H
         go_wp2_with (first | ((with_reducible refine zq 104 ?_); refine zg (some 33) Tryz.func104 #[.int .i64 (a0.size : Int), .int .i64 1, .int .i64 7] ?_; (with_reducible refine (spec_l1In.calls (a0.size : Int) 1 7 true _ a6.out).mono ?_); rintro e w' ⟨rfl, ⟨nd, rfl⟩⟩; refine ⟨_, rfl, ?_⟩; have a9 : 0 ≤ (0 : Int) := (by omega); have a4 : 0 < a0.size := (by have : (0 : Int) < (a0.size : Int) := zD; omega); have b9 : ∀ h : 0 < a0.size, ((a0[0]'h).toNat : Int) = bt a0 0 := bt_at a0 0; clear a9; have c0 : (0 < (a0.size : Int)) = True := eq_true (zD); replace a4 := eq_true a4))
         go_ret2
         exact ⟨by first | rfl | (simp; done) | (simp [*]; done) | (simp; rw [Bool.eq_iff_iff]; simp; done), by repeat (first | exact Drawn0.refl _ | apply Drawn0.step)⟩
        ·have c8 := beq_eq_false_iff_ne.mpr a7
         have c9 := bne_iff_ne.mpr a7
         replace H := zI1 H
         rcases H with ⟨b0, H⟩ | ⟨b0, H⟩
         ·have d0 : decide (a1 < a3) = true := decide_eq_true b0
          clear b0
          simp only [Option.some.injEq, Prod.mk.injEq] at H
          obtain ⟨rfl, rfl⟩ := H
          go_wp2_with (first | ((with_reducible refine zq 104 ?_); refine zg (some 33) Tryz.func104 #[.int .i64 (a0.size : Int), .int .i64 1, .int .i64 7] ?_; (with_reducible refine (spec_l1In.calls (a0.size : Int) 1 7 true _ a6.out).mono ?_); rintro e w' ⟨rfl, ⟨nd, rfl⟩⟩; refine ⟨_, rfl, ?_⟩; have a9 : 0 ≤ (0 : Int) := (by omega); have a4 : 0 < a0.size := (by have : (0 : Int) < (a0.size : Int) := zD; omega); have b9 : ∀ h : 0 < a0.size, ((a0[0]'h).toNat : Int) = bt a0 0 := bt_at a0 0; clear a9; have c0 : (0 < (a0.size : Int)) = True := eq_true (zD); replace a4 := eq_true a4))
          go_ret2
          exact ⟨by first | rfl | (simp; done) | (simp [*]; done) | (simp; rw [Bool.eq_iff_iff]; simp; done), by repeat (first | exact Drawn0.refl _ | apply Drawn0.step)⟩
         ·have d0 : decide (a1 < a3) = false := decide_eq_false b0
          clear b0
          simp only [Option.some.injEq, Prod.mk.injEq] at H
          obtain ⟨rfl, rfl⟩ := H
          go_wp2_with (first | ((with_reducible refine zq 104 ?_); refine zg (some 33) Tryz.func104 #[.int .i64 (a0.size : Int), .int .i64 1, .int .i64 7] ?_; (with_reducible refine (spec_l1In.calls (a0.size : Int) 1 7 true _ a6.out).mono ?_); rintro e w' ⟨rfl, ⟨nd, rfl⟩⟩; refine ⟨_, rfl, ?_⟩; have a9 : 0 ≤ (0 : Int) := (by omega); have a4 : 0 < a0.size := (by have : (0 : Int) < (a0.size : Int) := zD; omega); have b9 : ∀ h : 0 < a0.size, ((a0[0]'h).toNat : Int) = bt a0 0 := bt_at a0 0; clear a9; have c0 : (0 < (a0.size : Int)) = True := eq_true (zD); replace a4 := eq_true a4))
          go_ret2
          exact ⟨by first | rfl | (simp; done) | (simp [*]; done) | (simp; rw [Bool.eq_iff_iff]; simp; done), by repeat (first | exact Drawn0.refl _ | apply Drawn0.step)⟩
       ·have c6 : decide (1 < (a0.size : Int)) = false := decide_eq_false a8
        have c7 : decide (1 < a0.size) = false := decide_eq_false (by omega)
        clear a8
        replace H := zI1 H
        rcases H with ⟨b1, H⟩ | ⟨b1, H⟩
        ·have d1 : decide (a1 < a3) = true := decide_eq_true b1
         clear b1
         simp only [Option.some.injEq, Prod.mk.injEq] at H
         obtain ⟨rfl, rfl⟩ := H
         go_wp2_with (first | ((with_reducible refine zq 104 ?_); refine zg (some 33) Tryz.func104 #[.int .i64 (a0.size : Int), .int .i64 1, .int .i64 7] ?_; (with_reducible refine (spec_l1In.calls (a0.size : Int) 1 7 true _ a6.out).mono ?_); rintro e w' ⟨rfl, ⟨nd, rfl⟩⟩; refine ⟨_, rfl, ?_⟩))
         go_ret2
         exact ⟨by first | rfl | (simp; done) | (simp [*]; done) | (simp; rw [Bool.eq_iff_iff]; simp; done), by repeat (first | exact Drawn0.refl _ | apply Drawn0.step)⟩
        ·have d1 : decide (a1 < a3) = false := decide_eq_false b1
         clear b1
         simp only [Option.some.injEq, Prod.mk.injEq] at H
         obtain ⟨rfl, rfl⟩ := H
         go_wp2_with (first | ((with_reducible refine zq 104 ?_); refine zg (some 33) Tryz.func104 #[.int .i64 (a0.size : Int), .int .i64 1, .int .i64 7] ?_; (with_reducible refine (spec_l1In.calls (a0.size : Int) 1 7 true _ a6.out).mono ?_); rintro e w' ⟨rfl, ⟨nd, rfl⟩⟩; refine ⟨_, rfl, ?_⟩))
         go_ret2
         exact ⟨by first | rfl | (simp; done) | (simp [*]; done) | (simp; rw [Bool.eq_iff_iff]; simp; done), by repeat (first | exact Drawn0.refl _ | apply Drawn0.step)⟩
      ·simp only [Option.some.injEq, Prod.mk.injEq] at H
       obtain ⟨rfl, rfl⟩ := H
       go_wp2_with (first | ((with_reducible refine zq 104 ?_); refine zg (some 33) Tryz.func104 #[.int .i64 (a0.size : Int), .int .i64 1, .int .i64 7] ?_; (with_reducible refine (spec_l1In.calls (a0.size : Int) 1 7 false _ a6.out).mono ?_); rintro e w' ⟨rfl, ⟨nd, rfl⟩⟩; refine ⟨_, rfl, ?_⟩))
       go_ret2
       exact ⟨by first | rfl | (simp; done) | (simp [*]; done) | (simp; rw [Bool.eq_iff_iff]; simp; done), by repeat (first | exact Drawn0.refl _ | apply Drawn0.step)⟩
end Go.Proofs.YtpcdhoeoefoeoaaGreatDoor.PGC
