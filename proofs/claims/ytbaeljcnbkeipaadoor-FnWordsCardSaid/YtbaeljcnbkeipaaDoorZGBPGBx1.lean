/- The walks of the functions that these laws reach, and what each comes to: printed by this session's program. -/
import Derived.Test.YtbaeljcnbkeipaaDoorZGBPGBx0
import Derived.Test.YtbaeljcnbkeipaaDoorZGBSays
namespace Go.Proofs.YtbaeljcnbkeipaaDoor.PGB
open Go.RowKit YtbaeljcnbkeipaaDoorW.PrintWords YtbaeljcnbkeipaaDoorW.PrintLast YtbaeljcnbkeipaaDoorW.PrintMore
attribute [local go_sem high] Mine.str_gtr Mine.str_leq Mine.str_geq
attribute [local go_sem] max2_int min2_int max_two min_two max_three min_three max_four min_four   -- for this text's walks alone
set_option linter.unusedVariables false
set_option maxHeartbeats 8000000
set_option maxRecDepth 100000
set_option linter.unusedSimpArgs false
/-! ### laws_big: function 17 -/
def laws_big.f (l0 : List Int) : Option (Bool) := some (decide ((l0.length : Int) > 1048576))
theorem laws_big.calls (A0 : Option Addr) (c0 : Nat) (l0 : List Int) (r : Bool) (w : World) (a0 : Kd.C (Kd.int .u8) w A0 l0.length l0) (a1 : l0.length ≤ c0) (h : laws_big.f l0 = some r) :
  Calls Tryd.prog 17 #[.slice A0 l0.length c0] w fun e w' => e = .returned (.bool r) ∧ Drawn0 w w' := by
 have a2 := zA a0
 have a3 := zA a1
 clear a0 a1
 unfold laws_big.f at h
 have H := h
 clear h
 obtain rfl := zm H
 go_enter Tryd.func17, Tryd.ntmps17
 go_wp2
 go_ret
 exact ⟨by first | rfl | (simp; done) | (simp [*]; done) | (simp; rw [Bool.eq_iff_iff]; simp; done), by repeat (first | exact Drawn0.refl _ | apply Drawn0.step)⟩
/-! ### laws_sameTexts: function 33 -/
mutual
def laws_sameTexts.j0 : Nat → List ByteArray → List ByteArray → Option (Bool)
 | 0, _, _ => none
 | k + 1, x0, x1 => laws_sameTexts.l0 k x0 x1 0
def laws_sameTexts.l0 : Nat → List ByteArray → List ByteArray → Int → Option (Bool)
 | 0, _, _, _ => none
 | k + 1, x0, x1, x5 => if x5 < (x0.length : Int) then (if 0 ≤ x5 then (if x5 < (x1.length : Int) then (if (rdOf ByteArray.empty x0 x5).toList = (rdOf ByteArray.empty x1 x5).toList then (laws_sameTexts.l0 k x0 x1 (wrap64 (x5 + 1))) else (some false)) else (none)) else (none)) else (some true)
end
def laws_sameTexts.f (k : Nat) (l0 l1 : List ByteArray) : Option (Bool) := if (l0.length : Int) = (l1.length : Int) then (laws_sameTexts.j0 k l0 l1) else (some false)
theorem laws_sameTexts.calls (k : Nat) (A0 : Option Addr) (c0 : Nat) (l0 : List ByteArray) (A1 : Option Addr) (c1 : Nat) (l1 : List ByteArray) (r : Bool) (w : World) (b1 : Kd.C Kd.string w A0 l0.length l0) (b2 : l0.length ≤ c0) (b3 : Kd.C Kd.string w A1 l1.length l1) (b4 : l1.length ≤ c1) (h : laws_sameTexts.f k l0 l1 = some r) :
  Calls Tryd.prog 33 #[.slice A0 l0.length c0, .slice A1 l1.length c1] w fun e w' => e = .returned (.bool r) ∧ Drawn0 w w' := by
 have b5 := zA b1
 have d3 := zA b2
 clear b1 b2
 have b6 := zA b3
 have d4 := zA b4
 clear b3 b4
 unfold laws_sameTexts.f at h
 have H := h
 clear h
 have a6 := zA H
 clear H
 go_enter Tryd.func33, Tryd.ntmps33
 go_upto_if 10 with (fail)
 repeat (go_quiet (fail); go_upto_if 10 with (fail))
 go_cut [] (fun wc => ∃ (kq : Nat), Aside0 (laws_sameTexts.j0 kq l0 l1 = some r) ∧ Aside0 (kq ≤ k) ∧ Drawn0 w wc)
 case first =>
  have H := a6.out; clear a6; replace H := zI1 H
  rcases H with ⟨c4, H⟩ | ⟨c4, H⟩
  ·have a1 := beq_iff_eq.mpr c4; have a7 := bne_eq_false_iff_eq.mpr c4
   have a8 : (l0.length == l1.length) = true := by first | simpa using c4 | (simp at c4 ⊢; omega)
   clear c4
   (first | rw [a1] | (simp only [i64_w, i32_w]; rw [a1]) | skip)
   have H' := zA H; clear H
   go_wp2
   repeat (go_quiet (fail); try go_wp2)
   go_meet
   case rel => exact ⟨_, (by first | exact H' | (subst_vars; exact H')), ⟨by first | omega | exact Nat.le_refl _⟩, by repeat (first | exact Drawn0.refl _ | apply Drawn0.step)⟩
  have a1 := beq_eq_false_iff_ne.mpr c4; have a7 := bne_iff_ne.mpr c4
  have a8 : (l0.length == l1.length) = false := by first | simpa using c4 | (simp at c4 ⊢; omega)
  (first | rw [a1] | (simp only [i64_w, i32_w]; rw [a1]) | skip)
  obtain rfl := zm H
  go_wp2
  repeat (go_quiet (fail); try go_wp2)
  go_ret
  exact ⟨by first | rfl | (simp; done) | (simp [*]; done) | (simp; rw [Bool.eq_iff_iff]; simp; done), by repeat (first | exact Drawn0.refl _ | apply Drawn0.step)⟩
 case rest =>
  clear a6
  try clear c1
  try clear p2
  try clear c3
  try clear c4
  try clear a1
  try clear a7
  try clear a8
  obtain ⟨kq, HA, b7, ⟨d5, rfl⟩⟩ := hcut
  cases kq with
  | zero => exact absurd HA.out (by simp [laws_sameTexts.j0])
  | succ b8 =>
   have H := HA.out; clear HA; simp only [laws_sameTexts.j0] at H; have H' := zA H; clear H
   go_wp2
   repeat (go_quiet (fail); try go_wp2)
   go_loopg [5] b8 (fun kq v5 w' => ∃ (a0 : Int), v5 = .int .i64 a0 ∧ Aside0 (laws_sameTexts.l0 kq l0 l1 a0 = some r) ∧ Aside0 (kq ≤ b8) ∧ Drawn0 w w')
   case atStart => exact ⟨(0), zS, H', ⟨Nat.le_refl _⟩, by repeat (first | exact Drawn0.refl _ | apply Drawn0.step)⟩
   case round =>
    clear H'
    try clear c1
    try clear c2
    try clear p2
    try clear c3
    try clear c4
    try clear a1
    try clear a7
    try clear a8
    try clear p2
    obtain ⟨a0, rfl, HA, b9, ⟨m2, rfl⟩⟩ := hrel
    cases gk with
    | zero => exact absurd HA.out (by simp [laws_sameTexts.l0])
    | succ k2 =>
     have H := HA.out; clear HA; simp only [laws_sameTexts.l0] at H; replace H := zI0 H
     rcases H with ⟨c5, H⟩ | ⟨c5, H⟩
     ·replace H := zD0 H; obtain ⟨d6, H⟩ := H; replace H := zD0 H; obtain ⟨d7, H⟩ := H; replace H := zI1 H
      rcases H with ⟨c8, H⟩ | ⟨c8, H⟩
      ·have c6 := beq_iff_eq.mpr c8; have c7 := bne_eq_false_iff_eq.mpr c8; clear c8; have H' := zA H; clear H; have a2 : 0 ≤ (a0 : Int) := zD; have a3 : a0 < (l0.length : Int) := zD; obtain ⟨c9, a9, d0⟩ := Kd.at_string b5.out a0 a2 a3; cases a9; replace a2 := eq_true a2; replace a3 := eq_true a3; have a4 : 0 ≤ (a0 : Int) := zD; have a5 : a0 < (l1.length : Int) := zD; obtain ⟨d1, b0, d2⟩ := Kd.at_string b6.out a0 a4 a5; cases b0; replace a4 := eq_true a4; replace a5 := eq_true a5
       go_wp2
       repeat (go_quiet (fail); try go_wp2)
       go_roundg k2
       case measure => have := b7.out; have := b9.out; omega
       case rel => exact ⟨(wrap64 (a0 + 1)), zS, H', ⟨by have := b7.out; have := b9.out; omega⟩, by repeat (first | exact Drawn0.refl _ | apply Drawn0.step)⟩
      have c6 := beq_eq_false_iff_ne.mpr c8; have c7 := bne_iff_ne.mpr c8; obtain rfl := zm H; have a2 : 0 ≤ (a0 : Int) := zD; have a3 : a0 < (l0.length : Int) := zD; obtain ⟨c9, a9, d0⟩ := Kd.at_string b5.out a0 a2 a3; cases a9; replace a2 := eq_true a2; replace a3 := eq_true a3; have a4 : 0 ≤ (a0 : Int) := zD; have a5 : a0 < (l1.length : Int) := zD; obtain ⟨d1, b0, d2⟩ := Kd.at_string b6.out a0 a4 a5; cases b0; replace a4 := eq_true a4; replace a5 := eq_true a5
      go_wp2
      repeat (go_quiet (fail); try go_wp2)
      go_ret
      exact ⟨by first | rfl | (simp; done) | (simp [*]; done) | (simp; rw [Bool.eq_iff_iff]; simp; done), by repeat (first | exact Drawn0.refl _ | apply Drawn0.step)⟩
     obtain rfl := zm H
     go_wp2
     repeat (go_quiet (fail); try go_wp2)
     go_ret
     exact ⟨by first | rfl | (simp; done) | (simp [*]; done) | (simp; rw [Bool.eq_iff_iff]; simp; done), by repeat (first | exact Drawn0.refl _ | apply Drawn0.step)⟩
/-! ### laws_ascending: function 35 -/
def laws_ascending.l0 : Nat → List ByteArray → Int → Option (Bool)
 | 0, _, _ => none
 | k + 1, x0, x3 => if x3 < (x0.length : Int) then (if 0 ≤ (wrap64 (x3 - 1)) then (if (wrap64 (x3 - 1)) < (x0.length : Int) then (if 0 ≤ x3 then (if ((Op.bytesLess ((rdOf ByteArray.empty x0 (wrap64 (x3 - 1))).toList) ((rdOf ByteArray.empty x0 x3).toList)) = true) then (laws_ascending.l0 k x0 (wrap64 (x3 + 1))) else (some false)) else (none)) else (none)) else (none)) else (some true)
def laws_ascending.f (k : Nat) (l0 : List ByteArray) : Option (Bool) := laws_ascending.l0 k l0 1
theorem laws_ascending.calls (k : Nat) (A0 : Option Addr) (c0 : Nat) (l0 : List ByteArray) (r : Bool) (w : World) (b2 : Kd.C Kd.string w A0 l0.length l0) (b3 : l0.length ≤ c0) (h : laws_ascending.f k l0 = some r) :
  Calls Tryd.prog 35 #[.slice A0 l0.length c0] w fun e w' => e = .returned (.bool r) ∧ Drawn0 w w' := by
 have a6 := zA b2
 have b9 := zA b3
 clear b2 b3
 unfold laws_ascending.f at h
 have H := h
 clear h
 have H' := zA H
 clear H
 go_enter Tryd.func35, Tryd.ntmps35
 go_wp2
 repeat (go_quiet (fail); try go_wp2)
 go_loopg [3] k (fun kq v3 w' => ∃ (a0 : Int), v3 = .int .i64 a0 ∧ Aside0 (laws_ascending.l0 kq l0 a0 = some r) ∧ Aside0 (kq ≤ k) ∧ Drawn0 w w')
 case atStart => exact ⟨(1), zS, H', ⟨Nat.le_refl _⟩, by repeat (first | exact Drawn0.refl _ | apply Drawn0.step)⟩
 case round =>
  clear H'; obtain ⟨a0, rfl, HA, b4, ⟨m1, rfl⟩⟩ := hrel
  cases gk with
  | zero => exact absurd HA.out (by simp [laws_ascending.l0])
  | succ k1 =>
   have H := HA.out; clear HA; simp only [laws_ascending.l0] at H; replace H := zI0 H
   rcases H with ⟨b5, H⟩ | ⟨b5, H⟩
   ·obtain ⟨a1, a7⟩ : ∃ j_ : Int, (wrap64 (a0 - 1)) = j_ := ⟨_, rfl⟩
    replace H : (if 0 ≤ (a1) then (if (a1) < (l0.length : Int) then (if 0 ≤ a0 then (if ((Op.bytesLess ((rdOf ByteArray.empty l0 (a1)).toList) ((rdOf ByteArray.empty l0 a0).toList)) = true) then (laws_ascending.l0 k1 l0 (wrap64 (a0 + 1))) else (some false)) else (none)) else (none)) else (none)) = some r := by first | (rw [a7] at H; exact H) | (simp only [a7] at H ⊢; exact H)
    have hji3w : (IntKind.i64.wrap (a0 - 1)) = a1 := (i64_w _).trans a7; replace H := zD0 H; obtain ⟨c1, H⟩ := H; replace H := zD0 H; obtain ⟨c2, H⟩ := H; replace H := zD0 H; obtain ⟨c3, H⟩ := H; replace H := zI1 H
    rcases H with ⟨c7, H⟩ | ⟨c7, H⟩
    ·have b6 : (Op.bytesLess ((rdOf ByteArray.empty l0 (a1)).toList) ((rdOf ByteArray.empty l0 a0).toList)) = true := c7; clear c7; have H' := zA H; clear H; have a2 : 0 ≤ ((a1) : Int) := zD; have a3 : (a1) < (l0.length : Int) := zD; obtain ⟨a8, a9, b7⟩ := Kd.at_string a6.out (a1) a2 a3; cases a9; replace a2 := eq_true a2; replace a3 := eq_true a3; have a4 : 0 ≤ (a0 : Int) := zD; have a5 : a0 < (l0.length : Int) := zD; obtain ⟨b0, b1, b8⟩ := Kd.at_string a6.out a0 a4 a5; obtain rfl : a8 = b0 := (by injection b1); replace a4 := eq_true a4; replace a5 := eq_true a5
     go_wp2
     repeat (go_quiet (fail); try go_wp2)
     go_roundg k1
     case measure => have := b4.out; omega
     case rel => exact ⟨(wrap64 (a0 + 1)), zS, H', ⟨by have := b4.out; omega⟩, by repeat (first | exact Drawn0.refl _ | apply Drawn0.step)⟩
    have b6 : (Op.bytesLess ((rdOf ByteArray.empty l0 (a1)).toList) ((rdOf ByteArray.empty l0 a0).toList)) = false := by simpa using c7
    clear c7; obtain rfl := zm H; have a2 : 0 ≤ ((a1) : Int) := zD; have a3 : (a1) < (l0.length : Int) := zD; obtain ⟨a8, a9, b7⟩ := Kd.at_string a6.out (a1) a2 a3; cases a9; replace a2 := eq_true a2; replace a3 := eq_true a3; have a4 : 0 ≤ (a0 : Int) := zD; have a5 : a0 < (l0.length : Int) := zD; obtain ⟨b0, b1, b8⟩ := Kd.at_string a6.out a0 a4 a5; obtain rfl : a8 = b0 := (by injection b1); replace a4 := eq_true a4; replace a5 := eq_true a5
    go_wp2
    repeat (go_quiet (fail); try go_wp2)
    go_ret
    exact ⟨by first | rfl | (simp; done) | (simp only [← a7] <;> (first | rfl | simp)) | (simp [*]; done), by repeat (first | exact Drawn0.refl _ | apply Drawn0.step)⟩
   obtain rfl := zm H
   go_wp2
   repeat (go_quiet (fail); try go_wp2)
   go_ret
   exact ⟨by first | rfl | (simp; done) | (simp [*]; done) | (simp; rw [Bool.eq_iff_iff]; simp; done), by repeat (first | exact Drawn0.refl _ | apply Drawn0.step)⟩
/-! ### laws_at: function 37 -/
def laws_at.f (l0 : List Int) (a1 : Int) : Option (Int) := if a1 < (l0.length : Int) then (if 0 ≤ a1 then (some (wrap64 (rd l0 a1))) else (none)) else (some (Int.tmod (wrap64 ((wrap64 (a1 * 31)) + (wrap64 ((l0.length : Int) * 7)))) 256))
theorem laws_at.calls (A0 : Option Addr) (c0 : Nat) (l0 : List Int) (a1 r : Int) (w : World) (a3 : Kd.C (Kd.int .u8) w A0 l0.length l0) (a4 : l0.length ≤ c0) (h : laws_at.f l0 a1 = some r) :
  Calls Tryd.prog 37 #[.slice A0 l0.length c0, .int .i64 a1] w fun e w' => e = .returned (.int .i64 r) ∧ Drawn0 w w' := by
 have a5 := zA a3
 have a8 := zA a4
 clear a3 a4
 unfold laws_at.f at h
 have H := h
 clear h
 replace H := zI0 H
 rcases H with ⟨a6, H⟩ | ⟨a6, H⟩
 ·replace H := zD0 H; obtain ⟨a9, H⟩ := H; obtain rfl := zm H; have a0 : 0 ≤ (a1 : Int) := zD; have a2 : a1 < (l0.length : Int) := zD; obtain ⟨b0, a7, b1⟩ := Kd.at_int a5.out a1 a0 a2; cases a7; replace a0 := eq_true a0; replace a2 := eq_true a2
  go_enter Tryd.func37, Tryd.ntmps37
  go_wp2
  go_ret
  exact ⟨by first | rfl | (simp; done) | (simp [*]; done) | (simp; rw [Bool.eq_iff_iff]; simp; done), by repeat (first | exact Drawn0.refl _ | apply Drawn0.step)⟩
 obtain rfl := zm H
 go_enter Tryd.func37, Tryd.ntmps37
 go_wp2
 go_ret
 exact ⟨by first | rfl | (simp; done) | (simp [*]; done) | (simp; rw [Bool.eq_iff_iff]; simp; done), by repeat (first | exact Drawn0.refl _ | apply Drawn0.step)⟩
/-! ### strconv_Itoa: function 80 -/
def strconv_Itoa.f (a0 : Int) : Option ByteArray := if -9223372036854775808 ≤ a0 ∧ a0 ≤ 9223372036854775807 then some ⟨(Lib.itoa a0).toArray⟩ else none
theorem strconv_Itoa.calls (a0 : Int) (r : ByteArray) (w : World) (hG : GW w) (h : strconv_Itoa.f a0 = some r) :
  Calls Tryd.prog 80 #[.int .i64 a0] w fun e w' => e = .returned (.string r) ∧ Below w.heap.size w w' := by
 unfold strconv_Itoa.f at h
 split at h
 ·rename_i hs
  obtain rfl := Option.some.inj h
  refine (Tryd.strconv_Itoa a0 hs.1 hs.2 w hG.pow10).mono ?_
  rintro e w' ⟨rfl, k, os, rfl⟩
  exact ⟨rfl, Lb.below_grow w k os⟩
 ·cases h
/-! ### impl_NumText: function 39 -/
def impl_NumText.f (a0 : Int) : Option (ByteArray) := (strconv_Itoa.f (mx a0 0)).bind fun a1 => (some a1)
theorem impl_NumText.calls (a0 : Int) (r : ByteArray) (w : World) (hG : GW w) (h : impl_NumText.f a0 = some r) :
  Calls Tryd.prog 39 #[.int .i64 a0] w fun e w' => e = .returned (.string r) ∧ Below w.heap.size w w' := by
 have HG := zA hG
 clear hG
 have HB := zA (Below.refl w.heap.size w)
 unfold impl_NumText.f at h
 have H := h
 clear h
 obtain ⟨a1, a2⟩ : ∃ j_ : Int, (mx a0 0) = j_ := ⟨_, rfl⟩
 replace H : ((strconv_Itoa.f (a1)).bind fun a3 => (some a3)) = some r := by first | (rw [a2] at H; exact H) | (simp only [a2] at H ⊢; exact H)
 (try (have hji2l : 0 ≤ a1 := by (rw [← a2]; unfold mx; (repeat' split) <;> omega)))
 (try (have hji2m : 0 ≤ a1 := by omega))
 have a5 : (if a0 < 0 then 0 else a0) = a1 := a2
 replace H := Option.bind_eq_some_iff.mp H
 obtain ⟨a3, a4, H⟩ := H
 try dsimp only at H
 have A3 := zA a4
 clear a4
 obtain rfl := zm H
 go_enter Tryd.func39, Tryd.ntmps39
 go_wp2_with (first | ((with_reducible refine gate_callee (f := 80) rfl ?_); refine goesL_ (some 5) rfl rfl Tryd.func80 (by kernel_rfl) rfl #[.int .i64 a1] rfl (by (try simp only [List.map_toArray, List.map_cons, List.map_nil]); first | done | (simp only [a2]; rfl) | rfl | (simp only [List.length_drop, List.length_take]; rfl)) ?_; (with_reducible refine (strconv_Itoa.calls a1 a3 _ ?s1 A3.out).mono ?_); (case s1 => exact GW.below HG.out (zB)); rintro e w4 ⟨rfl, hb⟩; refine ⟨_, rfl, ?_⟩; replace HB := zA (below_step (zB) hb); (try clear hb)))
 go_ret
 exact ⟨by first | rfl | (simp [errW_none, errW_some] <;> rfl) | (simp only [← a2]; first | rfl | (simp [errW_none, errW_some] <;> rfl)) | (simp [*, errW_none, errW_some] <;> rfl), zB⟩
/-! ### impl_inRange: function 78 -/
def impl_inRange.f (a0 a1 a2 : Int) : Option (Bool) := if a0 ≥ a1 then (some (decide (a0 ≤ a2))) else (some false)
theorem impl_inRange.calls (a0 a1 a2 : Int) (r : Bool) (w : World) (h : impl_inRange.f a0 a1 a2 = some r) :
  Calls Tryd.prog 78 #[.int .i64 a0, .int .i64 a1, .int .i64 a2] w fun e w' => e = .returned (.bool r) ∧ Drawn0 w w' := by
 unfold impl_inRange.f at h
 have H := h
 clear h
 replace H := zI1 H
 rcases H with ⟨c4, H⟩ | ⟨c4, H⟩
 ·have a3 : decide (a1 ≤ a0) = true := decide_eq_true c4; clear c4; obtain rfl := zm H
  go_enter Tryd.func78, Tryd.ntmps78
  go_wp2
  go_ret
  exact ⟨by first | rfl | (simp; done) | (simp [*]; done) | (simp; rw [Bool.eq_iff_iff]; simp; done), by repeat (first | exact Drawn0.refl _ | apply Drawn0.step)⟩
 have a3 : decide (a1 ≤ a0) = false := decide_eq_false c4
 clear c4
 obtain rfl := zm H
 go_enter Tryd.func78, Tryd.ntmps78
 go_wp2
 go_ret
 exact ⟨by first | rfl | (simp; done) | (simp [*]; done) | (simp; rw [Bool.eq_iff_iff]; simp; done), by repeat (first | exact Drawn0.refl _ | apply Drawn0.step)⟩
/-! ### impl_isFigure: function 79 -/
def impl_isFigure.f (a0 : Int) : Option (Bool) := if a0 ≥ 48 then (some (decide (a0 ≤ 57))) else (some false)
theorem impl_isFigure.calls (a0 : Int) (r : Bool) (w : World) (h : impl_isFigure.f a0 = some r) :
  Calls Tryd.prog 79 #[.int .u8 a0] w fun e w' => e = .returned (.bool r) ∧ Drawn0 w w' := by
 unfold impl_isFigure.f at h
 have H := h
 clear h
 replace H := zI1 H
 rcases H with ⟨c2, H⟩ | ⟨c2, H⟩
 ·have a1 : decide (48 ≤ a0) = true := decide_eq_true c2; clear c2; obtain rfl := zm H
  go_enter Tryd.func79, Tryd.ntmps79
  go_wp2
  go_ret
  exact ⟨by first | rfl | (simp; done) | (simp [*]; done) | (simp; rw [Bool.eq_iff_iff]; simp; done), by repeat (first | exact Drawn0.refl _ | apply Drawn0.step)⟩
 have a1 : decide (48 ≤ a0) = false := decide_eq_false c2
 clear c2
 obtain rfl := zm H
 go_enter Tryd.func79, Tryd.ntmps79
 go_wp2
 go_ret
 exact ⟨by first | rfl | (simp; done) | (simp [*]; done) | (simp; rw [Bool.eq_iff_iff]; simp; done), by repeat (first | exact Drawn0.refl _ | apply Drawn0.step)⟩
/-! ### impl_ParseNum: function 38 -/
mutual
def impl_ParseNum.j0 : Nat → ByteArray → Int → Option (Int × Bool)
 | 0, _, _ => none
 | k + 1, x0, x1 => impl_ParseNum.l0 k x0 x1 0 0
def impl_ParseNum.l0 : Nat → ByteArray → Int → Int → Int → Option (Int × Bool)
 | 0, _, _, _, _ => none
 | k + 1, x0, x1, x6, x7 => if x7 < (x0.size : Int) then (if 0 ≤ x7 then ((impl_isFigure.f (bt x0 x7)).bind fun a0 => (if a0 = true then (impl_ParseNum.l0 k x0 x1 (wrap64 ((wrap64 (x6 * 10)) + (((bt x0 x7) - 48) % 256))) (wrap64 (x7 + 1))) else (some (0, false)))) else (none)) else ((impl_NumText.f x6).bind fun a1 => (if a1.toList = x0.toList then (if x6 > x1 then (some (0, false)) else (some (x6, true))) else (some (0, false))))
end
def impl_ParseNum.f (k : Nat) (a0 : ByteArray) (a1 : Int) : Option (Int × Bool) := (impl_inRange.f (a0.size : Int) 1 7).bind fun a2 => (if a2 = true then (impl_ParseNum.j0 k a0 a1) else (some (0, false)))
theorem impl_ParseNum.calls (k : Nat) (a0 : ByteArray) (a1 r1 : Int) (r2 : Bool) (w : World) (hG : GW w) (h : impl_ParseNum.f k a0 a1 = some (r1, r2)) :
  Calls Tryd.prog 38 #[.string a0, .int .i64 a1] w fun e w' => e = .returned (.tuple #[.int .i64 r1, .bool r2]) ∧ Below w.heap.size w w' := by
 have HG := zA hG
 clear hG
 have HB := zA (Below.refl w.heap.size w)
 unfold impl_ParseNum.f at h
 have H := h
 clear h
 replace H := Option.bind_eq_some_iff.mp H
 obtain ⟨b7, a9, H⟩ := H
 try dsimp only at H
 have A3 := zA a9
 clear a9
 have a6 := zA H
 clear H
 go_enter Tryd.func38, Tryd.ntmps38
 go_upto_if 11 with (first | ((with_reducible refine zq 78 ?_); refine zg (some 10) Tryd.func78 #[.int .i64 (a0.size : Int), .int .i64 1, .int .i64 7] ?_; (with_reducible refine (impl_inRange.calls (a0.size : Int) 1 7 b7 _ A3.out).mono ?_); rintro e w' ⟨rfl, ⟨nd, rfl⟩⟩; refine ⟨_, rfl, ?_⟩))
 (try simp only [Act.put, zT])
 go_cut [] (fun wc => ∃ (kq : Nat), Aside0 (impl_ParseNum.j0 kq a0 a1 = some (r1, r2)) ∧ Aside0 (kq ≤ k) ∧ Aside0 (Below w.heap.size w wc))
 case first =>
  have H := a6.out; clear a6; replace H := zB0 H
  rcases H with ⟨rfl, H⟩ | ⟨rfl, H⟩
  ·have H' := zA H; clear H
   go_wp2
   go_meet
   case rel => exact ⟨_, (by first | exact H' | (subst_vars; exact H')), ⟨by first | omega | exact Nat.le_refl _⟩, ⟨zB⟩⟩
  simp only [zU] at H; obtain ⟨rfl, rfl⟩ := H
  go_wp2
  go_ret2
  exact ⟨zE, zB⟩
 case rest =>
  clear a6
  try clear p2
  try clear c3
  try clear c5
  obtain ⟨kq, HA, b0, HB⟩ := hcut
  cases kq with
  | zero => exact absurd HA.out (by simp [impl_ParseNum.j0])
  | succ b1 =>
   have H := HA.out; clear HA; simp only [impl_ParseNum.j0] at H; have H' := zA H; clear H
   go_wp2
   go_loopg [6, 7] b1 (fun kq v6 v7 w' => ∃ (a3 : Int) (a2 : Int), v6 = .int .i64 a3 ∧ v7 = .int .i64 a2 ∧ Aside0 (impl_ParseNum.l0 kq a0 a1 a3 a2 = some (r1, r2)) ∧ Aside0 (kq ≤ b1) ∧ Aside0 (Below w.heap.size w w'))
   case atStart => exact ⟨(0), (0), zS, zS, H', ⟨Nat.le_refl _⟩, ⟨zB⟩⟩
   case round =>
    clear H'
    try clear p2
    try clear c3
    try clear c5
    try clear p2
    obtain ⟨a3, a2, rfl, rfl, HA, b2, HB⟩ := hrel
    cases gk with
    | zero => exact absurd HA.out (by simp [impl_ParseNum.l0])
    | succ k2 =>
     have H := HA.out; clear HA; simp only [impl_ParseNum.l0] at H; replace H := zI0 H
     rcases H with ⟨b8, H⟩ | ⟨b8, H⟩
     ·replace H := zD0 H; obtain ⟨c4, H⟩ := H; replace H := Option.bind_eq_some_iff.mp H; obtain ⟨c6, b3, H⟩ := H
      try dsimp only at H
      have A9 := zA b3; clear b3; replace H := zB0 H
      rcases H with ⟨rfl, H⟩ | ⟨rfl, H⟩
      ·have H' := zA H; clear H; have p8 : 0 ≤ (a2 : Int) := zD; have q8 : a2 < (a0.size : Int) := zD; have b9 := bt_at a0 a2; replace p8 := eq_true p8; replace q8 := eq_true q8
       go_wp2_with (first | ((with_reducible refine zq 79 ?_); refine zg (some 21) Tryd.func79 #[.int .u8 (bt a0 a2)] ?_; (with_reducible refine (impl_isFigure.calls (bt a0 a2) true _ A9.out).mono ?_); rintro e w' ⟨rfl, ⟨nd, rfl⟩⟩; refine ⟨_, rfl, ?_⟩; have b4 : 0 ≤ (a2 : Int) := zD; have b5 : a2 < (a0.size : Int) := zD; have c7 := bt_at a0 a2; replace b4 := eq_true b4; replace b5 := eq_true b5))
       go_roundg k2
       case measure => have := b0.out; have := b2.out; omega
       case rel => exact ⟨(wrap64 ((wrap64 (a3 * 10)) + (((bt a0 a2) - 48) % 256))), (wrap64 (a2 + 1)), zS, zS, H', ⟨by have := b0.out; have := b2.out; omega⟩, ⟨zB⟩⟩
      simp only [zU] at H; obtain ⟨rfl, rfl⟩ := H; have p8 : 0 ≤ (a2 : Int) := zD; have q8 : a2 < (a0.size : Int) := zD; have b9 := bt_at a0 a2; replace p8 := eq_true p8; replace q8 := eq_true q8
      go_wp2_with (first | ((with_reducible refine zq 79 ?_); refine zg (some 21) Tryd.func79 #[.int .u8 (bt a0 a2)] ?_; (with_reducible refine (impl_isFigure.calls (bt a0 a2) false _ A9.out).mono ?_); rintro e w' ⟨rfl, ⟨nd, rfl⟩⟩; refine ⟨_, rfl, ?_⟩))
      go_ret2
      exact ⟨zE, zB⟩
     replace H := Option.bind_eq_some_iff.mp H; obtain ⟨a7, b6, H⟩ := H
     try dsimp only at H
     have a8 := zA b6; clear b6; replace H := zI1 H
     rcases H with ⟨a4, H⟩ | ⟨a4, H⟩
     ·have c0 := beq_iff_eq.mpr a4; have c1 := bne_eq_false_iff_eq.mpr a4; clear a4; replace H := zI1 H
      rcases H with ⟨a5, H⟩ | ⟨a5, H⟩
      ·have c2 : decide (a1 < a3) = true := decide_eq_true a5; clear a5; simp only [zU] at H; obtain ⟨rfl, rfl⟩ := H
       go_wp2_with (first | ((with_reducible refine zq 39 ?_); refine zg (some 32) Tryd.func39 #[.int .i64 a3] ?_; (with_reducible refine (impl_NumText.calls a3 a7 _ ?s1 a8.out).mono ?_); (case s1 => exact GW.below HG.out (zB)); rintro e c8 ⟨rfl, hb⟩; refine ⟨_, rfl, ?_⟩; replace HB := zA (below_step (zB) hb); (try clear hb)))
       go_ret2
       exact ⟨zE, zB⟩
      have c2 : decide (a1 < a3) = false := decide_eq_false a5; clear a5; simp only [zU] at H; obtain ⟨rfl, rfl⟩ := H
      go_wp2_with (first | ((with_reducible refine zq 39 ?_); refine zg (some 32) Tryd.func39 #[.int .i64 a3] ?_; (with_reducible refine (impl_NumText.calls a3 a7 _ ?s1 a8.out).mono ?_); (case s1 => exact GW.below HG.out (zB)); rintro e c9 ⟨rfl, hb⟩; refine ⟨_, rfl, ?_⟩; replace HB := zA (below_step (zB) hb); (try clear hb)))
      go_ret2
      exact ⟨zE, zB⟩
     have c0 := beq_eq_false_iff_ne.mpr a4; have c1 := bne_iff_ne.mpr a4; simp only [zU] at H; obtain ⟨rfl, rfl⟩ := H
     go_wp2_with (first | ((with_reducible refine zq 39 ?_); refine zg (some 32) Tryd.func39 #[.int .i64 a3] ?_; (with_reducible refine (impl_NumText.calls a3 a7 _ ?s1 a8.out).mono ?_); (case s1 => exact GW.below HG.out (zB)); rintro e d0 ⟨rfl, hb⟩; refine ⟨_, rfl, ?_⟩; replace HB := zA (below_step (zB) hb); (try clear hb)))
     go_ret2
     exact ⟨zE, zB⟩
/-! ### spec_NumText: function 51 -/
mutual
def spec_NumText.j0 : Nat → Int → Option (ByteArray)
 | 0, _ => none
 | k + 1, x0 => spec_NumText.l0 k x0 (strOfNums (([(wrap64 (48 + (Int.tmod x0 10))) % 256] : List Int)))
def spec_NumText.l0 : Nat → Int → ByteArray → Option (ByteArray)
 | 0, _, _ => none
 | k + 1, x0, x3 => if x0 > 9 then ((some (([(wrap64 (48 + (Int.tmod (wrap64 (Int.tdiv x0 10)) 10))) % 256] : List Int) : List Int)).bind fun a0 => (if (strOfNums a0).size + x3.size ≤ 9223372036854775807 then (spec_NumText.l0 k (wrap64 (Int.tdiv x0 10)) ((strOfNums a0) ++ x3)) else (none))) else (some x3)
end
def spec_NumText.f (k : Nat) (a0 : Int) : Option (ByteArray) := if a0 < 0 then (spec_NumText.j0 k 0) else (spec_NumText.j0 k a0)
theorem spec_NumText.calls (k : Nat) (a0 : Int) (r : ByteArray) (w : World) (h : spec_NumText.f k a0 = some r) :
  Calls Tryd.prog 51 #[.int .i64 a0] w fun e w' => e = .returned (.string r) ∧ Below w.heap.size w w' := by
 have HB := zA (Below.refl w.heap.size w)
 unfold spec_NumText.f at h
 have H := h
 clear h
 have a8 := zA H
 clear H
 go_enter Tryd.func51, Tryd.ntmps51
 go_upto_if 5 with (fail)
 go_cut [0] (fun v0 wc => ∃ (kq : Nat) (a2 : Int), v0 = .int .i64 a2 ∧ Aside0 (spec_NumText.j0 kq a2 = some r) ∧ Aside0 (kq ≤ k) ∧ Aside0 (Below w.heap.size w wc))
 case first =>
  have H := a8.out; clear a8; replace H := zI0 H
  rcases H with ⟨a3, H⟩ | ⟨a3, H⟩
  ·(first | rw [a3] | (simp only [i64_w, i32_w]; rw [a3]) | skip)
   have H' := zA H; clear H
   go_wp2
   go_meet
   case rel => exact ⟨_, (0), zS, (by first | exact H' | (subst_vars; exact H')), ⟨by first | omega | exact Nat.le_refl _⟩, ⟨zB⟩⟩
  (first | rw [a3] | (simp only [i64_w, i32_w]; rw [a3]) | skip)
  have H' := zA H; clear H
  go_wp2
  go_meet
  case rel => exact ⟨_, (a0), zS, (by first | exact H' | (subst_vars; exact H')), ⟨by first | omega | exact Nat.le_refl _⟩, ⟨zB⟩⟩
 case rest =>
  clear a8
  try clear p2
  try clear c3
  try clear a3
  obtain ⟨kq, a2, rfl, HA, b2, HB⟩ := hcut
  cases kq with
  | zero => exact absurd HA.out (by simp [spec_NumText.j0])
  | succ a9 =>
   have H := HA.out; clear HA; simp only [spec_NumText.j0] at H; obtain ⟨b3, b0⟩ : ∃ y_ : List Int, y_ = (([(wrap64 (48 + (Int.tmod a2 10))) % 256] : List Int)) := ⟨_, rfl⟩; replace H : (spec_NumText.l0 a9 a2 (strOfNums b3)) = some r := zY b0 H; have b4 := zA b0; clear b0; have H' := zA H; clear H
   go_wp2_with (first | ((with_reducible refine gate_dst (N := 10) rfl ?_); refine Kd.R_lit (Kd.int .u8) _ 5 ?hg (N := 10) ?hd (xs := ([(wrap64 (48 + (Int.tmod a2 10))) % 256] : List Int)) (inner := [.int .u8 ((wrap64 (48 + (Int.tmod a2 10))) % 256)]) (ok := fun _ => True) ?hr ?hp (fun _ hk => hk) trivial (Below.refl _ _) (Nat.le_refl _) (by simp) ?_; (case hd => rfl); (case hg => rfl); (case hr => first | (go_simp; done) | (go_simp; rfl)); (case hp => exact (Reps.one (show Kd.M (Kd.int .u8) _ _ _ ((wrap64 (48 + (Int.tmod a2 10))) % 256) [.int .u8 ((wrap64 (48 + (Int.tmod a2 10))) % 256)] from rfl) (Reps.none _ _))); intro c1 w4 a5 hb hg_ hnew_; clear hg_ hnew_; (first | rw [← b4.out] at a5 | (simp only [Int.reduceToNat] at a5; rw [← b4.out] at a5)); have b7 := zA (Kd.R_lower a5 (below_size (zB))); replace HB := zA (below_step (zB) hb); clear hb a5; have b8 := own_string (P := Tryd.prog) Tryd.underlying36 Tryd.underlying5 Tryd.underlying9 (Kd.own_of_R b7.out)))
   go_loopg [0, 3] a9 (fun kq v0 v3 w' => ∃ (a1 : Int) (a4 : ByteArray), v0 = .int .i64 a1 ∧ v3 = .string a4 ∧ Aside0 (spec_NumText.l0 kq a1 a4 = some r) ∧ Aside0 (kq ≤ a9) ∧ Aside0 (Below w.heap.size w w'))
   case atStart => exact ⟨(a2), (strOfNums b3), zS, zS, H', ⟨Nat.le_refl _⟩, ⟨zB⟩⟩
   case round =>
    clear H'
    try clear p2
    try clear c3
    try clear a3
    try clear c5
    try clear p6
    try clear b8
    try clear p2
    obtain ⟨a1, a4, rfl, rfl, HA, b5, HB⟩ := hrel
    cases gk with
    | zero => exact absurd HA.out (by simp [spec_NumText.l0])
    | succ k2 =>
     have H := HA.out; clear HA; simp only [spec_NumText.l0] at H; replace H := zI1 H
     rcases H with ⟨c7, H⟩ | ⟨c7, H⟩
     ·have b9 : decide (9 < a1) = true := decide_eq_true c7; clear c7; obtain ⟨a7, b1⟩ : ∃ y_ : List Int, y_ = (([(wrap64 (48 + (Int.tmod (wrap64 (Int.tdiv a1 10)) 10))) % 256] : List Int)) := ⟨_, rfl⟩; replace H : (if (strOfNums a7).size + a4.size ≤ 9223372036854775807 then (spec_NumText.l0 k2 (wrap64 (Int.tdiv a1 10)) ((strOfNums a7) ++ a4)) else (none)) = some r := zY b1 H; have b6 := zA b1; clear b1; replace H := zC0 H; obtain ⟨c8, H⟩ := H; have c2 := eq_true c8; have c4 := decide_eq_true c8
      try have c6 : (9223372036854775807 < (strOfNums a7).size + a4.size) = False := eq_false (Nat.not_lt.2 c8)
      have H' := zA H; clear H
      go_wp2_with (first | ((with_reducible refine gate_dst (N := 20) rfl ?_); refine Kd.R_lit (Kd.int .u8) _ 5 ?hg (N := 20) ?hd (xs := ([(wrap64 (48 + (Int.tmod (wrap64 (Int.tdiv a1 10)) 10))) % 256] : List Int)) (inner := [.int .u8 ((wrap64 (48 + (Int.tmod (wrap64 (Int.tdiv a1 10)) 10))) % 256)]) (ok := fun _ => True) ?hr ?hp (fun _ hk => hk) trivial (Below.refl _ _) (Nat.le_refl _) (by simp) ?_; (case hd => rfl); (case hg => rfl); (case hr => first | (go_simp; done) | (go_simp; rfl)); (case hp => exact (Reps.one (show Kd.M (Kd.int .u8) _ _ _ ((wrap64 (48 + (Int.tmod (wrap64 (Int.tdiv a1 10)) 10))) % 256) [.int .u8 ((wrap64 (48 + (Int.tmod (wrap64 (Int.tdiv a1 10)) 10))) % 256)] from rfl) (Reps.none _ _))); intro c9 w9 a6 hb hg_ hnew_; clear hg_ hnew_; (first | rw [← b6.out] at a6 | (simp only [Int.reduceToNat] at a6; rw [← b6.out] at a6)); have c0 := zA (Kd.R_lower a6 (below_size (zB))); replace HB := zA (below_step (zB) hb); clear hb a6; have d0 := own_string (P := Tryd.prog) Tryd.underlying36 Tryd.underlying5 Tryd.underlying9 (Kd.own_of_R c0.out)))
      go_roundg k2
      case measure => have := b2.out; have := b5.out; omega
      case rel => exact ⟨(wrap64 (Int.tdiv a1 10)), ((strOfNums a7) ++ a4), zS, zS, H', ⟨by have := b2.out; have := b5.out; omega⟩, ⟨zB⟩⟩
     have b9 : decide (9 < a1) = false := decide_eq_false c7; clear c7; obtain rfl := zm H
     go_wp2
     go_ret
     exact ⟨zE, zB⟩
/-- A state of type 113 at block g of W; what its slices lead to came in by w0. -/
def IsS113 (w0 W : World) (g : Nat) (f0 : List Int) (f1 f2 : Int) : Prop := ∃ A0 c0, W.heap[g]? = some (.cells #[.slice A0 f0.length c0, .int .i64 f1, .int .i64 f2] 113 (0, 0)) ∧ w0.heap.size ≤ g ∧ Kd.C (Kd.int .u8) w0 A0 f0.length f0
theorem IsS113.grown {w0 W : World} {g : Nat} {f0 : List Int} {f1 : Int} {f2 : Int} {W1 : World} {row : Option Nat} (h : IsS113 w0 W g f0 f1 f2) (hw : W.grownBy W1 row) (hne : some g ≠ row) : IsS113 w0 W1 g f0 f1 f2 := by
 obtain ⟨A0, c0, hb, hg, a0⟩ := h
 exact ⟨A0, c0, blk_grown hb hw hne, hg, a0⟩
theorem IsS113.own_neN {w0 W : World} {g : Nat} {f0 : List Int} {f1 : Int} {f2 : Int} {α : Type} {d : Kd α} {e : Nat} {base : Nat} {ok : Nat → Prop} {v : Value} {xs : List α} (h : IsS113 w0 W g f0 f1 f2) (ho : Kd.N d e W base ok v xs) (ht : e ≠ 113) : some g ≠ v.ownBlock := by
 obtain ⟨A0, c0, hb, hg, a0⟩ := h
 exact Kd.N_ne ho hb ht
theorem IsS113.fresh {w0 W : World} {g : Nat} {f0 : List Int} {f1 : Int} {f2 : Int} (h : IsS113 w0 W g f0 f1 f2) : ∀ k, W.heap.size ≤ k → k ≠ g := by
 obtain ⟨A0, c0, hb, hg, a0⟩ := h
 exact Kd.freshB hb
theorem IsS113.kept {w0 W : World} {g : Nat} {f0 : List Int} {f1 : Int} {f2 : Int} {W1 : World} {S : Nat → Prop} (h : IsS113 w0 W g f0 f1 f2) (hk : Kept W W1 S) (hne : ¬ S g) : IsS113 w0 W1 g f0 f1 f2 := by
 obtain ⟨A0, c0, hb, hg, a0⟩ := h
 exact ⟨A0, c0, blk_kept hb hk hne, hg, a0⟩
theorem IsS113.below {w0 W : World} {g : Nat} {f0 : List Int} {f1 : Int} {f2 : Int} {W1 : World} (h : IsS113 w0 W g f0 f1 f2) (hw : Below W.heap.size W W1) : IsS113 w0 W1 g f0 f1 f2 := h.grown (grown_of_below hw none) (by simp)
theorem IsS113.alloc {w0 W : World} {g : Nat} {f0 : List Int} {f1 : Int} {f2 : Int} (h : IsS113 w0 W g f0 f1 f2) (o : Obj) : IsS113 w0 (W.alloc o) g f0 f1 f2 := h.below (below_alloc (Below.refl _ _) o)
theorem IsS113.drewN {w0 W : World} {g : Nat} {f0 : List Int} {f1 : Int} {f2 : Int} (h : IsS113 w0 W g f0 f1 f2) (m : Nat) : IsS113 w0 (W.drewN m) g f0 f1 f2 := h
theorem IsS113.drew {w0 W : World} {g : Nat} {f0 : List Int} {f1 : Int} {f2 : Int} (h : IsS113 w0 W g f0 f1 f2) : IsS113 w0 W.drew g f0 f1 f2 := h
theorem IsS113.at_ {w0 W : World} {g : Nat} {f0 : List Int} {f1 : Int} {f2 : Int} {w' : World} {m : Nat} (hq : W.drewN m = w') (h : IsS113 w0 W g f0 f1 f2) : IsS113 w0 w' g f0 f1 f2 := by subst hq; exact IsS113.drewN h m
theorem IsS113.apart {w0 W : World} {g : Nat} {f0 : List Int} {f1 : Int} {f2 : Int} {α : Type} {d : Kd α} {e : Nat} {base : Nat} {ok : Nat → Prop} {v : Value} {xs : List α} (h : IsS113 w0 W g f0 f1 f2) (ho : d.R e W base ok v xs) (ht : ∀ q, q ∈ e :: d.E → q ≠ 113) : d.R e W base (fun k => ok k ∧ k ≠ g) v xs := by
 obtain ⟨A0, c0, hb, hg, a0⟩ := h
 exact Kd.R_types ho hb ht
theorem IsS113.own_ne {w0 W : World} {g : Nat} {f0 : List Int} {f1 : Int} {f2 : Int} {α : Type} {d : Kd α} {e : Nat} {base : Nat} {ok : Nat → Prop} {v : Value} {xs : List α} (h : IsS113 w0 W g f0 f1 f2) (ho : d.R e W base ok v xs) (ht : e ≠ 113) : some g ≠ v.ownBlock := by
 obtain ⟨A0, c0, hb, hg, a0⟩ := h
 exact Kd.R_ne ho hb ht
theorem IsS113.apartQ {w0 W : World} {g : Nat} {f0 : List Int} {f1 : Int} {f2 : Int} {α : Type} {d : Kd α} {e : Nat} {base : Nat} {ok : Nat → Prop} {v : Value} {xs : List α} (h : IsS113 w0 W g f0 f1 f2) (ho : d.Q e W base ok v xs) (ht : ∀ q, q ∈ e :: d.E → q ≠ 113) : d.Q e W base (fun k => ok k ∧ k ≠ g) v xs := by
 obtain ⟨A0, c0, hb, hg, a0⟩ := h
 exact Kd.Q_types ho hb ht
theorem IsS113.own_neQ {w0 W : World} {g : Nat} {f0 : List Int} {f1 : Int} {f2 : Int} {α : Type} {d : Kd α} {e : Nat} {base : Nat} {ok : Nat → Prop} {v : Value} {xs : List α} (h : IsS113 w0 W g f0 f1 f2) (ho : d.Q e W base ok v xs) (ht : e ≠ 113) : some g ≠ v.ownBlock := by
 obtain ⟨A0, c0, hb, hg, a0⟩ := h
 exact Kd.Q_ne ho hb ht
theorem IsS113.apartS {w0 W : World} {g : Nat} {f0 : List Int} {f1 : Int} {f2 : Int} {α : Type} {d : Kd α} {e : Nat} {base : Nat} {ok : Nat → Prop} {v : Value} {xs : List α} (h : IsS113 w0 W g f0 f1 f2) (ho : d.S e W base ok v xs) (ht : ∀ q, q ∈ e :: d.E → q ≠ 113) : d.S e W base (fun k => ok k ∧ k ≠ g) v xs := by
 obtain ⟨A0, c0, hb, hg, a0⟩ := h
 exact Kd.S_types ho hb ht
theorem IsS113.own_neS {w0 W : World} {g : Nat} {f0 : List Int} {f1 : Int} {f2 : Int} {α : Type} {d : Kd α} {e : Nat} {base : Nat} {ok : Nat → Prop} {v : Value} {xs : List α} (h : IsS113 w0 W g f0 f1 f2) (ho : d.S e W base ok v xs) (ht : e ≠ 113) : some g ≠ v.ownBlock := by
 obtain ⟨A0, c0, hb, hg, a0⟩ := h
 exact Kd.S_ne ho hb ht
theorem IsS113.lt {w0 W : World} {g : Nat} {f0 : List Int} {f1 : Int} {f2 : Int} (h : IsS113 w0 W g f0 f1 f2) : g < W.heap.size := by
 obtain ⟨A0, c0, hb, hg, a0⟩ := h
 exact blk_lt hb
theorem IsS113.ge {w0 W : World} {g : Nat} {f0 : List Int} {f1 : Int} {f2 : Int} (h : IsS113 w0 W g f0 f1 f2) : w0.heap.size ≤ g := by
 obtain ⟨A0, c0, hb, hg, a0⟩ := h
 exact hg
theorem IsS113.ne_blk {w0 W : World} {g : Nat} {f0 : List Int} {f1 : Int} {f2 : Int} {a : Nat} {cs : Array Value} {t : TypeId} {fr : Nat × Nat} (h : IsS113 w0 W g f0 f1 f2) (a0 : W.heap[a]? = some (.cells cs t fr)) (ht : t ≠ 113) : g ≠ a := by
 obtain ⟨A0, c0, hb, hg, a1⟩ := h
 rintro rfl
 rw [hb] at a0
 injection a0 with a0
 injection a0 with _ ht2
 exact ht ht2.symm
theorem IsS113.far {w0 W : World} {g : Nat} {f0 : List Int} {f1 : Int} {f2 : Int} {p : Addr} (h : IsS113 w0 W g f0 f1 f2) (hne : g ≠ p.block) (u : Value) : IsS113 w0 (W.setCell p u) g f0 f1 f2 := by
 obtain ⟨A0, c0, hb, hg, a0⟩ := h
 exact ⟨A0, c0, blk_far hb hne u, hg, a0⟩
theorem cellS113_0 {W : World} {g : Nat} {A0 : Option Addr} {c0 : Nat} {f0 : List Int} {f1 : Int} {f2 : Int} (h : W.heap[g]? = some (.cells #[.slice A0 f0.length c0, .int .i64 f1, .int .i64 f2] 113 (0, 0))) : W.cell? ⟨g, 0, none⟩ = some (.slice A0 f0.length c0) := (blk_cell h 0).trans rfl
theorem cellS113_1 {W : World} {g : Nat} {A0 : Option Addr} {c0 : Nat} {f0 : List Int} {f1 : Int} {f2 : Int} (h : W.heap[g]? = some (.cells #[.slice A0 f0.length c0, .int .i64 f1, .int .i64 f2] 113 (0, 0))) : W.cell? ⟨g, 1, none⟩ = some (.int .i64 f1) := (blk_cell h 1).trans rfl
theorem IsS113.set_1 {w0 W : World} {g : Nat} {f0 : List Int} {f1 : Int} {f2 : Int} (h : IsS113 w0 W g f0 f1 f2) (x : Int) : IsS113 w0 (W.setCell ⟨g, 1, none⟩ (.int .i64 x)) g f0 x f2 := by
 obtain ⟨A0, c0, hb, hg, a0⟩ := h
 exact ⟨A0, c0, by simpa using blk_set hb 1 (.int .i64 x), hg, a0⟩
theorem cellS113_2 {W : World} {g : Nat} {A0 : Option Addr} {c0 : Nat} {f0 : List Int} {f1 : Int} {f2 : Int} (h : W.heap[g]? = some (.cells #[.slice A0 f0.length c0, .int .i64 f1, .int .i64 f2] 113 (0, 0))) : W.cell? ⟨g, 2, none⟩ = some (.int .i64 f2) := (blk_cell h 2).trans rfl
theorem IsS113.set_2 {w0 W : World} {g : Nat} {f0 : List Int} {f1 : Int} {f2 : Int} (h : IsS113 w0 W g f0 f1 f2) (x : Int) : IsS113 w0 (W.setCell ⟨g, 2, none⟩ (.int .i64 x)) g f0 f1 x := by
 obtain ⟨A0, c0, hb, hg, a0⟩ := h
 exact ⟨A0, c0, by simpa using blk_set hb 2 (.int .i64 x), hg, a0⟩
theorem IsS113.new (w0 W : World) (A0 : Option Addr) (c0 : Nat) (f0 : List Int) (f1 f2 : Int) (hB : Below w0.heap.size w0 W) (a0 : Kd.C (Kd.int .u8) w0 A0 f0.length f0) : IsS113 w0 (W.alloc (.cells #[.slice A0 f0.length c0, .int .i64 f1, .int .i64 f2] 113)) W.heap.size f0 f1 f2 := ⟨A0, c0, by simpa using heap_alloc_new W _, hB.size, a0⟩
/-! ### spec_l1New: function 64 -/
def spec_l1New.l0 : Nat → List Int → Int → Int → Option (List Int × Int × Int)
 | 0, _, _, _ => none
 | k + 1, x0, x3, x4 => if x4 < (x0.length : Int) then (if x4 < 4000 then (if 0 ≤ x4 then (spec_l1New.l0 k x0 (Go.bits .and .i64 (wrap64 ((wrap64 ((wrap64 (x3 * 137)) + (wrap64 (rd x0 x4)))) + 11)) 1073741823) (wrap64 (x4 + 1))) else (none)) else (some (x0, 0, x3))) else (some (x0, 0, x3))
def spec_l1New.f (k : Nat) (l0 : List Int) : Option (List Int × Int × Int) := spec_l1New.l0 k l0 (wrap64 (778778 + (l0.length : Int))) 0
theorem spec_l1New.calls (k : Nat) (A0 : Option Addr) (c0 : Nat) (l0 r1 : List Int) (r2 r3 : Int) (w0 w : World) (hB : Below w0.heap.size w0 w) (a7 : Kd.C (Kd.int .u8) w0 A0 l0.length l0) (a8 : l0.length ≤ c0) (h : spec_l1New.f k l0 = some (r1, r2, r3)) :
  Calls Tryd.prog 64 #[.slice A0 l0.length c0] w fun e w' => ∃ g_ : Nat, e = .returned (.pointer (some ⟨g_, 0, none⟩)) ∧ IsS113 w0 w' g_ r1 r2 r3 ∧ Below w0.heap.size w0 w' ∧ Below w.heap.size w w' := by
 have c2 := Tryd.underlying113
 have a4 := zA a7
 have c3 := zA a8
 clear a7 a8
 have HBW := zA (Below.refl w.heap.size w)
 have a9 := zA hB.size
 have HB := zA hB
 clear hB
 unfold spec_l1New.f at h
 have H := h
 clear h
 have H' := zA H
 clear H
 go_enter Tryd.func64, Tryd.ntmps64
 go_wp2
 go_loopg [3, 4] k (fun kq v3 v4 w' => ∃ (a0 : Int) (a1 : Int), v3 = .int .i64 a0 ∧ v4 = .int .i64 a1 ∧ Aside0 (spec_l1New.l0 kq l0 a0 a1 = some (r1, r2, r3)) ∧ Aside0 (kq ≤ k) ∧ Aside0 (Below w0.heap.size w0 w') ∧ Aside0 (Below w.heap.size w w'))
 case atStart => exact ⟨(wrap64 (778778 + (l0.length : Int))), (0), zS, zS, H', ⟨Nat.le_refl _⟩, ⟨zB⟩, ⟨by repeat (first | (with_reducible first | exact HBW.out | apply below_alloc | apply pw_below_drewN | apply below_drew1) | exact HBW.out)⟩⟩
 case round =>
  clear H'; obtain ⟨a0, a1, rfl, rfl, HA, b0, HB, HBW⟩ := hrel
  cases gk with
  | zero => exact absurd HA.out (by simp [spec_l1New.l0])
  | succ k1 =>
   have H := HA.out; clear HA; simp only [spec_l1New.l0] at H; replace H := zI0 H
   rcases H with ⟨b2, H⟩ | ⟨b2, H⟩
   ·replace H := zI0 H
    rcases H with ⟨b3, H⟩ | ⟨b3, H⟩
    ·replace H := zD0 H; obtain ⟨c4, H⟩ := H; have H' := zA H; clear H; have a5 : 0 ≤ (a1 : Int) := zD; have a6 : a1 < (l0.length : Int) := zD; obtain ⟨c5, b4, b1⟩ := Kd.at_int a4.out a1 a5 a6; cases b4; replace b1 := pw_cell_below HB.out b1; replace a5 := eq_true a5; replace a6 := eq_true a6
     go_wp2
     go_roundg k1
     case measure => have := b0.out; omega
     case rel => exact ⟨(Go.bits .and .i64 (wrap64 ((wrap64 ((wrap64 (a0 * 137)) + (wrap64 (rd l0 a1)))) + 11)) 1073741823), (wrap64 (a1 + 1)), zS, zS, H', ⟨by have := b0.out; omega⟩, ⟨zB⟩, ⟨by repeat (first | (with_reducible first | exact HBW.out | apply below_alloc | apply pw_below_drewN | apply below_drew1) | exact HBW.out)⟩⟩
    simp only [zU] at H; obtain ⟨rfl, rfl, rfl⟩ := H
    go_wp2_with (first | ((with_reducible refine zd 31 ?_); refine ze 31 113 #[.slice A0 l0.length c0, .int .i64 0, .int .i64 a0] ?_; intro a2 hg w5 hbox hb; replace HB := zA (below_step (zB) hb); have b5 := zA (hbox); have b6 := zA ((by rw [hg]; exact (below_size (by repeat (first | (with_reducible first | exact HBW.out | apply below_alloc | apply pw_below_drewN | apply below_drew1) | exact HBW.out))) : w.heap.size ≤ a2)); have b7 := zA ((Nat.le_trans a9.out (by rw [hg]; exact (below_size (by repeat (first | (with_reducible first | exact HBW.out | apply below_alloc | apply pw_below_drewN | apply below_drew1) | exact HBW.out))) : w.heap.size ≤ a2) : w0.heap.size ≤ a2)); replace HBW := zA (below_step HBW.out hb); clear hb hbox hg))
    go_ret
    exact ⟨_, rfl, (show IsS113 w0 _ a2 l0 0 a0 from ⟨_, _, zK b5.out, b7.out, a4.out⟩), zW HB.out, by repeat (first | (with_reducible first | exact HBW.out | apply below_alloc | apply pw_below_drewN | apply below_drew1 | refine below_set ?_ b6.out) | exact HBW.out)⟩
   simp only [zU] at H; obtain ⟨rfl, rfl, rfl⟩ := H
   go_wp2_with (first | ((with_reducible refine zd 31 ?_); refine ze 31 113 #[.slice A0 l0.length c0, .int .i64 0, .int .i64 a0] ?_; intro a3 hg w6 hbox hb; replace HB := zA (below_step (zB) hb); have b8 := zA (hbox); have b9 := zA ((by rw [hg]; exact (below_size (by repeat (first | (with_reducible first | exact HBW.out | apply below_alloc | apply pw_below_drewN | apply below_drew1) | exact HBW.out))) : w.heap.size ≤ a3)); have c1 := zA ((Nat.le_trans a9.out (by rw [hg]; exact (below_size (by repeat (first | (with_reducible first | exact HBW.out | apply below_alloc | apply pw_below_drewN | apply below_drew1) | exact HBW.out))) : w.heap.size ≤ a3) : w0.heap.size ≤ a3)); replace HBW := zA (below_step HBW.out hb); clear hb hbox hg))
   go_ret
   exact ⟨_, rfl, (show IsS113 w0 _ a3 l0 0 a0 from ⟨_, _, zK b8.out, c1.out, a4.out⟩), zW HB.out, by repeat (first | (with_reducible first | exact HBW.out | apply below_alloc | apply pw_below_drewN | apply below_drew1 | refine below_set ?_ b9.out) | exact HBW.out)⟩
/-! ### spec_l1Byte: function 123 -/
def spec_l1Byte.f (a2 : List Int) (a1 a0 : Int) : Option (Int × Int × Int) := if a1 < (a2.length : Int) then (if 0 ≤ a1 then (some (Go.bits .and .i64 (wrap64 ((Go.bits .and .i64 (Go.bits .xor .i64 ((wrap64 ((wrap64 (a0 * 6364136223846793005)) + 1442695040888963407)) / 8589934592) ((wrap64 ((wrap64 (a0 * 6364136223846793005)) + 1442695040888963407)) / 140737488355328)) 255) + (wrap64 (rd a2 a1)))) 255, wrap64 (a1 + 1), wrap64 ((wrap64 (a0 * 6364136223846793005)) + 1442695040888963407))) else (none)) else (some (Go.bits .and .i64 (Go.bits .xor .i64 ((wrap64 ((wrap64 (a0 * 6364136223846793005)) + 1442695040888963407)) / 8589934592) ((wrap64 ((wrap64 (a0 * 6364136223846793005)) + 1442695040888963407)) / 140737488355328)) 255, a1, wrap64 ((wrap64 (a0 * 6364136223846793005)) + 1442695040888963407)))
theorem spec_l1Byte.calls (g : Nat) (a5 : List Int) (a4 a6 r1 r2 r3 : Int) (w0 w : World) (hI : IsS113 w0 w g a5 a4 a6) (hB : Below w0.heap.size w0 w) (h : spec_l1Byte.f a5 a4 a6 = some (r1, r2, r3)) :
  Calls Tryd.prog 123 #[.pointer (some ⟨g, 0, none⟩)] w fun e w' => e = .returned (.int .i64 r1) ∧ IsS113 w0 w' g a5 r2 r3 ∧ Below w0.heap.size w0 w' ∧ KeepBut w w' g none := by
 have a0 := zA hI
 have HK := zA (KeepBut.refl w g none)
 have HL := zA hB.size
 clear hI
 have b6 := zA hB.size
 have HB := zA hB
 clear hB
 unfold spec_l1Byte.f at h
 have H := h
 clear h
 replace H := zI0 H
 rcases H with ⟨b0, H⟩ | ⟨b0, H⟩
 ·replace H := zD0 H; obtain ⟨b7, H⟩ := H; simp only [zU] at H; obtain ⟨rfl, rfl, rfl⟩ := H; obtain ⟨b8, b9, a1, b1, b2⟩ := a0.out; have c0 := cellS113_0 a1; have c1 := cellS113_1 a1; have c2 := cellS113_2 a1; have c3 := blk_frozen a1 1; have c4 := blk_frozen a1 2; clear a1 b1; have a8 : 0 ≤ (a4 : Int) := zD; have a9 : a4 < (a5.length : Int) := zD; obtain ⟨b3, b4, a2⟩ := Kd.at_int b2 a4 a8 a9; cases b4; have a7 : b3.block ≠ g := Nat.ne_of_lt (Nat.lt_of_lt_of_le (by have := World.block_lt_of_cell? _ _ a2; first | rwa [add_block] at this | exact this) (IsS113.ge a0.out)); replace a2 := pw_cell_below HB.out a2; replace a2 := (cell_far (p := ⟨g, 2, none⟩) (by first | (rw [add_block]; exact a7) | (show (Addr.add _ _).block ≠ _; rw [add_block]; exact a7) | exact a7) (.int .i64 (wrap64 ((wrap64 (a6 * 6364136223846793005)) + 1442695040888963407)))).trans a2
  (try have c5 := fun (n_ : Nat) => (show (((w.drewN n_).setCell ⟨g, 2, none⟩ (.int .i64 (wrap64 ((wrap64 (a6 * 6364136223846793005)) + 1442695040888963407))))).cell? _ = some _ from a2))
  clear a7; replace a8 := eq_true a8; replace a9 := eq_true a9
  go_enter Tryd.func123, Tryd.ntmps123
  go_wp2
  repeat (go_quiet (fail); try go_wp2)
  go_ret
  exact ⟨zE, by repeat (first | (with_reducible first | exact a0.out | apply IsS113.alloc | apply IsS113.drewN | apply IsS113.drew | apply IsS113.set_1 | apply IsS113.set_2) | exact a0.out), zX HB.out (IsS113.ge a0.out), zQ HK.out⟩
 simp only [zU] at H
 obtain ⟨rfl, rfl, rfl⟩ := H
 obtain ⟨c6, c7, a3, b5, c8⟩ := a0.out
 have c9 := cellS113_0 a3
 have d0 := cellS113_1 a3
 have d1 := cellS113_2 a3
 have d2 := blk_frozen a3 1
 have d3 := blk_frozen a3 2
 clear a3 b5
 go_enter Tryd.func123, Tryd.ntmps123
 go_wp2
 repeat (go_quiet (fail); try go_wp2)
 go_ret
 exact ⟨zE, by repeat (first | (with_reducible first | exact a0.out | apply IsS113.alloc | apply IsS113.drewN | apply IsS113.drew | apply IsS113.set_1 | apply IsS113.set_2) | exact a0.out), zX HB.out (IsS113.ge a0.out), zQ HK.out⟩
end Go.Proofs.YtbaeljcnbkeipaaDoor.PGB
