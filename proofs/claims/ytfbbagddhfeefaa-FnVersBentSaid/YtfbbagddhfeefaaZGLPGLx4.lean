/- The walks of the functions that these laws reach, and what each comes to: printed by this session's program. -/
import Derived.Test.YtfbbagddhfeefaaZGLPGLx0
import Derived.Test.YtfbbagddhfeefaaZGLPGLx2
import Derived.Test.YtfbbagddhfeefaaZGLPGLx3
import Derived.Test.YtfbbagddhfeefaaZGLSays
namespace Go.Proofs.Ytfbbagddhfeefaa.PGL
open Go.RowKit Go.Proofs.YtfbbagddhfeefaaW.PrintWords Go.Proofs.YtfbbagddhfeefaaW.PrintLast Go.Proofs.YtfbbagddhfeefaaW.PrintMore
attribute [local go_sem high] Go.Proofs.Ytfbbagddhfeefaa.Mine.str_gtr Go.Proofs.Ytfbbagddhfeefaa.Mine.str_leq Go.Proofs.Ytfbbagddhfeefaa.Mine.str_geq
attribute [local go_sem] max2_int min2_int max_two min_two max_three min_three max_four min_four   -- for this text's walks alone
set_option linter.unusedVariables false
set_option maxHeartbeats 8000000
set_option maxRecDepth 100000
set_option linter.unusedSimpArgs false
/-! ### cmp_Compare_string: function 182 -/
mutual
def cmp_Compare_string.j0 : Nat → ByteArray → ByteArray → Bool → Option (Int)
 | 0, _, _, _ => none
 | k + 1, x0, x1, x6 => if x6 = true then (some 1) else (cmp_Compare_string.j1 k x0 x1)
def cmp_Compare_string.j1 : Nat → ByteArray → ByteArray → Option (Int)
 | 0, _, _ => none
 | k + 1, x0, x1 => if (Op.bytesLess x0.toList x1.toList) = true then (some (-1)) else (if (Op.bytesLess x1.toList x0.toList) = true then (some 1) else (some 0))
end
def cmp_Compare_string.f (k : Nat) (a0 : ByteArray) (a1 : ByteArray) : Option (Int) := (cmp_isNaN_string.f a0).bind fun t153 => ((cmp_isNaN_string.f a1).bind fun t154 => (if t153 = true then (if t154 = true then (some 0) else (some (-1))) else (cmp_Compare_string.j0 k a0 a1 t154)))
theorem cmp_Compare_string.calls (k : Nat) (a0 : ByteArray) (a1 : ByteArray) (r : Int) (w : World) (h : cmp_Compare_string.f k a0 a1 = some r) :
  Calls Try.prog 182 #[.string a0, .string a1] w fun e w' => e = .returned (.int .i64 r) ∧ Drawn0 w w' := by
 have H : ((cmp_isNaN_string.f a0).bind fun t153 => ((cmp_isNaN_string.f a1).bind fun t154 => (if t153 = true then (if t154 = true then (some 0) else (some (-1))) else (cmp_Compare_string.j0 k a0 a1 t154)))) = some r := h
 clear h
 replace H := Option.bind_eq_some_iff.mp H
 obtain ⟨t153, A30, H⟩ := H
 replace H : ((cmp_isNaN_string.f a1).bind fun t154 => (if t153 = true then (if t154 = true then (some 0) else (some (-1))) else (cmp_Compare_string.j0 k a0 a1 t154))) = some r := H
 have A3 := Aside0.mk A30
 clear A30
 replace H := Option.bind_eq_some_iff.mp H
 obtain ⟨t154, A40, H⟩ := H
 replace H : (if t153 = true then (if t154 = true then (some 0) else (some (-1))) else (cmp_Compare_string.j0 k a0 a1 t154)) = some r := H
 have A4 := Aside0.mk A40
 clear A40
 have HC5 := Aside0.mk H
 clear H
 go_enter Try.func182, Try.ntmps182
 go_upto_if 11 with (first | ((with_reducible refine gate_callee (f := 188) rfl ?_); refine goesL_ (some 8) rfl rfl Try.func188 (by kernel_rfl) rfl #[.string a0] rfl zM ?_; (with_reducible refine (cmp_isNaN_string.calls a0 t153 _ A3.out).mono ?_); rintro e w' ⟨rfl, ⟨nd, rfl⟩⟩; refine ⟨_, rfl, ?_⟩) | ((with_reducible refine gate_callee (f := 188) rfl ?_); refine goesL_ (some 10) rfl rfl Try.func188 (by kernel_rfl) rfl #[.string a1] rfl zM ?_; (with_reducible refine (cmp_isNaN_string.calls a1 t154 _ A4.out).mono ?_); rintro e w' ⟨rfl, ⟨nd, rfl⟩⟩; refine ⟨_, rfl, ?_⟩))
 (try simp only [Act.put, List.setIfInBounds_toArray, List.set_cons_zero, List.set_cons_succ])
 go_cut [] (fun wc => ∃ (kq : Nat), Aside0 (cmp_Compare_string.j0 kq a0 a1 t154 = some r) ∧ Aside0 (kq ≤ k) ∧ Drawn0 w wc)
 case first =>
  have H := HC5.out
  clear HC5
  by_cases c6 : t153 = true
  ·subst c6
   have H1 : (if t154 = true then (some 0) else (some (-1))) = some r := by rw [if_pos rfl] at H; exact H
   clear H
   have H := H1
   clear H1
   by_cases c7 : t154 = true
   ·subst c7
    have H1 : (some 0) = some r := by rw [if_pos rfl] at H; exact H
    clear H
    have H := H1
    clear H1
    obtain rfl := Option.some.inj H
    go_wp2
    go_ret
    exact ⟨by first | rfl | (simp; done) | (simp [*]; done) | (simp; rw [Bool.eq_iff_iff]; simp; done), by repeat (first | exact Drawn0.refl _ | apply Drawn0.step)⟩
   ·replace c7 := Bool.eq_false_iff.mpr c7
    subst c7
    have H1 : (some (-1)) = some r := by rw [if_neg (show ¬ (false = true) by decide)] at H; exact H
    clear H
    have H := H1
    clear H1
    obtain rfl := Option.some.inj H
    go_wp2
    go_ret
    exact ⟨by first | rfl | (simp; done) | (simp [*]; done) | (simp; rw [Bool.eq_iff_iff]; simp; done), by repeat (first | exact Drawn0.refl _ | apply Drawn0.step)⟩
  ·replace c6 := Bool.eq_false_iff.mpr c6
   subst c6
   have H1 : (cmp_Compare_string.j0 k a0 a1 t154) = some r := by rw [if_neg (show ¬ (false = true) by decide)] at H; exact H
   clear H
   have H := H1
   clear H1
   have H' := Aside0.mk H
   clear H
   go_wp2
   go_meet
   case rel => exact ⟨_, (by first | exact H' | (subst_vars; exact H')), ⟨by first | omega | exact Nat.le_refl _⟩, by repeat (first | exact Drawn0.refl _ | apply Drawn0.step)⟩
 case rest =>
  clear HC5
  try clear c1
  try clear p2
  try clear c6
  try clear c7
  obtain ⟨kq, HA, HJ4, ⟨mc4, rfl⟩⟩ := hcut
  cases kq with
  | zero => exact absurd HA.out (by simp [cmp_Compare_string.j0])
  | succ kj4 =>
   have H := HA.out
   clear HA
   simp only [cmp_Compare_string.j0] at H
   have HC8 := Aside0.mk H
   clear H
   go_upto_if 13 with (fail)
   go_cut [] (fun wc => ∃ (kq : Nat), Aside0 (cmp_Compare_string.j1 kq a0 a1 = some r) ∧ Aside0 (kq ≤ kj4) ∧ Drawn0 w wc)
   case first =>
    have H := HC8.out
    clear HC8
    by_cases c9 : t154 = true
    ·subst c9
     have H1 : (some 1) = some r := by rw [if_pos rfl] at H; exact H
     clear H
     have H := H1
     clear H1
     obtain rfl := Option.some.inj H
     go_wp2
     go_ret
     exact ⟨by first | rfl | (simp; done) | (simp [*]; done) | (simp; rw [Bool.eq_iff_iff]; simp; done), by repeat (first | exact Drawn0.refl _ | apply Drawn0.step)⟩
    ·replace c9 := Bool.eq_false_iff.mpr c9
     subst c9
     have H1 : (cmp_Compare_string.j1 kj4 a0 a1) = some r := by rw [if_neg (show ¬ (false = true) by decide)] at H; exact H
     clear H
     have H := H1
     clear H1
     have H' := Aside0.mk H
     clear H
     go_wp2
     go_meet
     case rel => exact ⟨_, (by first | exact H' | (subst_vars; exact H')), ⟨by have := HJ4.out; first | omega | exact Nat.le_refl _⟩, by repeat (first | exact Drawn0.refl _ | apply Drawn0.step)⟩
   case rest =>
    clear HC8
    try clear c1
    try clear p2
    try clear c4
    try clear c6
    try clear c7
    try clear c9
    try clear p2
    obtain ⟨kq, HA, HJ7, ⟨mc7, rfl⟩⟩ := hcut
    cases kq with
    | zero => exact absurd HA.out (by simp [cmp_Compare_string.j1])
    | succ kj7 =>
     have H := HA.out
     clear HA
     simp only [cmp_Compare_string.j1] at H
     by_cases c10 : (Op.bytesLess a0.toList a1.toList) = true
     ·rw [if_pos c10] at H
      have c10b0 : (Op.bytesLess a0.toList a1.toList) = true := c10
      clear c10
      obtain rfl := Option.some.inj H
      go_wp2
      go_ret
      exact ⟨by first | rfl | (simp; done) | (simp [*]; done) | (simp; rw [Bool.eq_iff_iff]; simp; done), by repeat (first | exact Drawn0.refl _ | apply Drawn0.step)⟩
     ·rw [if_neg c10] at H
      have c10b0 : (Op.bytesLess a0.toList a1.toList) = false := by simpa using c10
      clear c10
      by_cases c11 : (Op.bytesLess a1.toList a0.toList) = true
      ·rw [if_pos c11] at H
       have c11b0 : (Op.bytesLess a1.toList a0.toList) = true := c11
       clear c11
       obtain rfl := Option.some.inj H
       go_wp2
       go_ret
       exact ⟨by first | rfl | (simp; done) | (simp [*]; done) | (simp; rw [Bool.eq_iff_iff]; simp; done), by repeat (first | exact Drawn0.refl _ | apply Drawn0.step)⟩
      ·rw [if_neg c11] at H
       have c11b0 : (Op.bytesLess a1.toList a0.toList) = false := by simpa using c11
       clear c11
       obtain rfl := Option.some.inj H
       go_wp2
       go_ret
       exact ⟨by first | rfl | (simp; done) | (simp [*]; done) | (simp; rw [Bool.eq_iff_iff]; simp; done), by repeat (first | exact Drawn0.refl _ | apply Drawn0.step)⟩
/-! ### impl_compareWords: function 167 -/
mutual
def impl_compareWords.j0 : Nat → ByteArray → ByteArray → Bool → Bool → Option (Int)
 | 0, _, _, _, _ => none
 | k + 1, x0, x1, x5, x6 => if x5 = true then (impl_compareWords.j1 k x0 x1 x5 x6 x6) else (impl_compareWords.j1 k x0 x1 x5 x6 false)
def impl_compareWords.j1 : Nat → ByteArray → ByteArray → Bool → Bool → Bool → Option (Int)
 | 0, _, _, _, _, _ => none
 | k + 1, x0, x1, x5, x6, x19 => if x19 = true then ((cmp_Compare_int.f k (x0.size : Int) (x1.size : Int)).bind fun t158 => ((cmp_Compare_string.f k x0 x1).bind fun t159 => ((cmp_Or_int.f k (([t158, t159] : List Int))).bind fun t163 => (some t163)))) else (if x5 = true then (some (-1)) else (if x6 = true then (some 1) else ((cmp_Compare_string.f k x0 x1).bind fun t164 => (some t164))))
end
def impl_compareWords.f (k : Nat) (a0 : ByteArray) (a1 : ByteArray) : Option (Int) := if a0.toList = ([] : List UInt8) then (if a1.toList = ([] : List UInt8) then (impl_compareWords.j0 k a0 a1 true true) else ((impl_isFigures.f k a1).bind fun t155 => (impl_compareWords.j0 k a0 a1 true t155))) else ((impl_isFigures.f k a0).bind fun t156 => (if a1.toList = ([] : List UInt8) then (impl_compareWords.j0 k a0 a1 t156 true) else ((impl_isFigures.f k a1).bind fun t157 => (impl_compareWords.j0 k a0 a1 t156 t157))))
theorem impl_compareWords.calls (k : Nat) (a0 : ByteArray) (a1 : ByteArray) (r : Int) (w : World) (h : impl_compareWords.f k a0 a1 = some r) :
  Calls Try.prog 167 #[.string a0, .string a1] w fun e w' => e = .returned (.int .i64 r) ∧ Below w.heap.size w w' := by
 have HB := Aside0.mk (Below.refl w.heap.size w)
 have H : (if a0.toList = ([] : List UInt8) then (if a1.toList = ([] : List UInt8) then (impl_compareWords.j0 k a0 a1 true true) else ((impl_isFigures.f k a1).bind fun t155 => (impl_compareWords.j0 k a0 a1 true t155))) else ((impl_isFigures.f k a0).bind fun t156 => (if a1.toList = ([] : List UInt8) then (impl_compareWords.j0 k a0 a1 t156 true) else ((impl_isFigures.f k a1).bind fun t157 => (impl_compareWords.j0 k a0 a1 t156 t157))))) = some r := h
 clear h
 have HC3 := Aside0.mk H
 clear H
 go_enter Try.func167, Try.ntmps167
 go_upto_region 1 with (fail)
 go_cut [5, 6] (fun v5 v6 wc => ∃ (kq : Nat) (x5_2 : Bool) (x6_2 : Bool), v5 = .bool x5_2 ∧ v6 = .bool x6_2 ∧ Aside0 (impl_compareWords.j0 kq a0 a1 x5_2 x6_2 = some r) ∧ Aside0 (kq ≤ k) ∧ Aside0 (Below w.heap.size w wc))
 case first =>
  have H := HC3.out
  clear HC3
  by_cases c4 : a0.toList = ([] : List UInt8)
  ·rw [if_pos c4] at H
   have c4b0 : (a0.toList == ([] : List UInt8)) = true := beq_iff_eq.mpr c4
   have c4b1 : (a0.toList != ([] : List UInt8)) = false := bne_eq_false_iff_eq.mpr c4
   clear c4
   (first | rw [c4b0] | (simp only [i64_w, i32_w]; rw [c4b0]) | rw [show a0.toList.isEmpty = true from by simpa using c4b0] | skip)
   by_cases c5 : a1.toList = ([] : List UInt8)
   ·rw [if_pos c5] at H
    have c5b0 : (a1.toList == ([] : List UInt8)) = true := beq_iff_eq.mpr c5
    have c5b1 : (a1.toList != ([] : List UInt8)) = false := bne_eq_false_iff_eq.mpr c5
    clear c5
    have H' := Aside0.mk H
    clear H
    go_wp2
    go_meet
    case rel => exact ⟨_, (true), (true), zS, zS, (by first | exact H' | (subst_vars; exact H')), ⟨by first | omega | exact Nat.le_refl _⟩, ⟨zB⟩⟩
   ·rw [if_neg c5] at H
    have c5b0 : (a1.toList == ([] : List UInt8)) = false := beq_eq_false_iff_ne.mpr c5
    have c5b1 : (a1.toList != ([] : List UInt8)) = true := bne_iff_ne.mpr c5
    replace H := Option.bind_eq_some_iff.mp H
    obtain ⟨t155, A60, H⟩ := H
    replace H : (impl_compareWords.j0 k a0 a1 true t155) = some r := H
    have A6 := Aside0.mk A60
    clear A60
    have H' := Aside0.mk H
    clear H
    go_wp2_with (first | (go_at_call 160; (with_reducible refine (impl_isFigures.calls k a1 t155 _ A6.out).mono ?_); rintro e w' ⟨rfl, ⟨nd, rfl⟩⟩))
    go_meet
    case rel => exact ⟨_, (true), (t155), zS, zS, (by first | exact H' | (subst_vars; exact H')), ⟨by first | omega | exact Nat.le_refl _⟩, ⟨zB⟩⟩
  ·rw [if_neg c4] at H
   have c4b0 : (a0.toList == ([] : List UInt8)) = false := beq_eq_false_iff_ne.mpr c4
   have c4b1 : (a0.toList != ([] : List UInt8)) = true := bne_iff_ne.mpr c4
   (first | rw [c4b0] | (simp only [i64_w, i32_w]; rw [c4b0]) | rw [show a0.toList.isEmpty = false from by simpa using c4b0] | skip)
   replace H := Option.bind_eq_some_iff.mp H
   obtain ⟨t156, A70, H⟩ := H
   replace H : (if a1.toList = ([] : List UInt8) then (impl_compareWords.j0 k a0 a1 t156 true) else ((impl_isFigures.f k a1).bind fun t157 => (impl_compareWords.j0 k a0 a1 t156 t157))) = some r := H
   have A7 := Aside0.mk A70
   clear A70
   by_cases c8 : a1.toList = ([] : List UInt8)
   ·rw [if_pos c8] at H
    have c8b0 : (a1.toList == ([] : List UInt8)) = true := beq_iff_eq.mpr c8
    have c8b1 : (a1.toList != ([] : List UInt8)) = false := bne_eq_false_iff_eq.mpr c8
    clear c8
    have H' := Aside0.mk H
    clear H
    go_wp2_with (first | (go_at_call 160; (with_reducible refine (impl_isFigures.calls k a0 t156 _ A7.out).mono ?_); rintro e w' ⟨rfl, ⟨nd, rfl⟩⟩))
    go_meet
    case rel => exact ⟨_, (t156), (true), zS, zS, (by first | exact H' | (subst_vars; exact H')), ⟨by first | omega | exact Nat.le_refl _⟩, ⟨zB⟩⟩
   ·rw [if_neg c8] at H
    have c8b0 : (a1.toList == ([] : List UInt8)) = false := beq_eq_false_iff_ne.mpr c8
    have c8b1 : (a1.toList != ([] : List UInt8)) = true := bne_iff_ne.mpr c8
    replace H := Option.bind_eq_some_iff.mp H
    obtain ⟨t157, A90, H⟩ := H
    replace H : (impl_compareWords.j0 k a0 a1 t156 t157) = some r := H
    have A9 := Aside0.mk A90
    clear A90
    have H' := Aside0.mk H
    clear H
    go_wp2_with (first | (go_at_call 160; (with_reducible refine (impl_isFigures.calls k a0 t156 _ A7.out).mono ?_); rintro e w' ⟨rfl, ⟨nd, rfl⟩⟩) | (go_at_call 160; (with_reducible refine (impl_isFigures.calls k a1 t157 _ A9.out).mono ?_); rintro e w' ⟨rfl, ⟨nd, rfl⟩⟩))
    go_meet
    case rel => exact ⟨_, (t156), (t157), zS, zS, (by first | exact H' | (subst_vars; exact H')), ⟨by first | omega | exact Nat.le_refl _⟩, ⟨zB⟩⟩
 case rest =>
  clear HC3
  try clear c1
  try clear p2
  try clear c4
  try clear c4b0
  try clear c4b1
  try clear c5
  try clear c5b0
  try clear c5b1
  try clear c8
  try clear c8b0
  try clear c8b1
  obtain ⟨kq, x5_2, x6_2, rfl, rfl, HA, HJ2, HB⟩ := hcut
  cases kq with
  | zero => exact absurd HA.out (by simp [impl_compareWords.j0])
  | succ kj2 =>
   have H := HA.out
   clear HA
   simp only [impl_compareWords.j0] at H
   have HC10 := Aside0.mk H
   clear H
   go_upto_region 2 with (fail)
   go_cut [19] (fun v19 wc => ∃ (kq : Nat) (x19_9 : Bool), v19 = .bool x19_9 ∧ Aside0 (impl_compareWords.j1 kq a0 a1 x5_2 x6_2 x19_9 = some r) ∧ Aside0 (kq ≤ kj2) ∧ Aside0 (Below w.heap.size w wc))
   case first =>
    have H := HC10.out
    clear HC10
    by_cases c11 : x5_2 = true
    ·subst c11
     have H1 : (impl_compareWords.j1 kj2 a0 a1 true x6_2 x6_2) = some r := by rw [if_pos rfl] at H; exact H
     clear H
     have H := H1
     clear H1
     have H' := Aside0.mk H
     clear H
     go_wp2
     go_meet
     case rel => exact ⟨_, (x6_2), zS, (by first | exact H' | (subst_vars; exact H')), ⟨by have := HJ2.out; first | omega | exact Nat.le_refl _⟩, ⟨zB⟩⟩
    ·replace c11 := Bool.eq_false_iff.mpr c11
     subst c11
     have H1 : (impl_compareWords.j1 kj2 a0 a1 false x6_2 false) = some r := by rw [if_neg (show ¬ (false = true) by decide)] at H; exact H
     clear H
     have H := H1
     clear H1
     have H' := Aside0.mk H
     clear H
     go_wp2
     go_meet
     case rel => exact ⟨_, (false), zS, (by first | exact H' | (subst_vars; exact H')), ⟨by have := HJ2.out; first | omega | exact Nat.le_refl _⟩, ⟨zB⟩⟩
   case rest =>
    clear HC10
    try clear c1
    try clear p2
    try clear c4
    try clear c4b0
    try clear c4b1
    try clear c5
    try clear c5b0
    try clear c5b1
    try clear c8
    try clear c8b0
    try clear c8b1
    try clear c11
    try clear p2
    obtain ⟨kq, x19_9, rfl, HA, HJ9, HB⟩ := hcut
    cases kq with
    | zero => exact absurd HA.out (by simp [impl_compareWords.j1])
    | succ kj9 =>
     have H := HA.out
     clear HA
     simp only [impl_compareWords.j1] at H
     by_cases c12 : x19_9 = true
     ·subst c12
      have H1 : ((cmp_Compare_int.f kj9 (a0.size : Int) (a1.size : Int)).bind fun t158 => ((cmp_Compare_string.f kj9 a0 a1).bind fun t159 => ((cmp_Or_int.f kj9 (([t158, t159] : List Int))).bind fun t163 => (some t163)))) = some r := by rw [if_pos rfl] at H; exact H
      clear H
      have H := H1
      clear H1
      replace H := Option.bind_eq_some_iff.mp H
      obtain ⟨t158, A130, H⟩ := H
      replace H : ((cmp_Compare_string.f kj9 a0 a1).bind fun t159 => ((cmp_Or_int.f kj9 (([t158, t159] : List Int))).bind fun t163 => (some t163))) = some r := H
      have A13 := Aside0.mk A130
      clear A130
      replace H := Option.bind_eq_some_iff.mp H
      obtain ⟨t159, A140, H⟩ := H
      replace H : ((cmp_Or_int.f kj9 (([t158, t159] : List Int))).bind fun t163 => (some t163)) = some r := H
      have A14 := Aside0.mk A140
      clear A140
      obtain ⟨y160, hy160⟩ : ∃ y_ : List Int, y_ = (([t158, t159] : List Int)) := ⟨_, rfl⟩
      replace H : ((cmp_Or_int.f kj9 y160).bind fun t163 => (some t163)) = some r := by first | (rw [hy160]; with_reducible exact H) | (have H2_ := (Option.bind_some _ _).symm.trans H; rw [hy160]; with_reducible exact H2_) | (have H2_ := (Option.bind_some _ _).symm.trans H; with_reducible exact H2_) | with_reducible exact H | (rw [hy160]; exact H) | exact H
      have Ny160 := Aside0.mk hy160
      clear hy160
      replace H := Option.bind_eq_some_iff.mp H
      obtain ⟨t163, A150, H⟩ := H
      replace H : (some t163) = some r := H
      have A15 := Aside0.mk A150
      clear A150
      obtain rfl := Option.some.inj H
      go_wp2_with (first | ((with_reducible refine gate_callee (f := 165) rfl ?_); refine goesL_ (some 28) rfl rfl Try.func165 (by kernel_rfl) rfl #[.int .i64 (a0.size : Int), .int .i64 (a1.size : Int)] rfl zM ?_; (with_reducible refine (cmp_Compare_int.calls kj9 (a0.size : Int) (a1.size : Int) t158 _ A13.out).mono ?_); rintro e w' ⟨rfl, ⟨nd, rfl⟩⟩; refine ⟨_, rfl, ?_⟩) | ((with_reducible refine gate_callee (f := 182) rfl ?_); refine goesL_ (some 31) rfl rfl Try.func182 (by kernel_rfl) rfl #[.string a0, .string a1] rfl zM ?_; (with_reducible refine (cmp_Compare_string.calls kj9 a0 a1 t159 _ A14.out).mono ?_); rintro e w' ⟨rfl, ⟨nd, rfl⟩⟩; refine ⟨_, rfl, ?_⟩) | ((with_reducible refine gate_dst (N := 32) rfl ?_); refine Kd.R_lit (Kd.int .i64) _ 3 ?hg (N := 32) ?hd (xs := ([t158, t159] : List Int)) (inner := [.int .i64 t158, .int .i64 t159]) (ok := fun _ => True) (okp := fun _ => True) ?hr ?hp (fun _ hk => hk) trivial (Below.refl _ _) (Nat.le_refl _) (by simp) ?_; (case hd => rfl); (case hg => rfl); (case hr => first | (go_simp; done) | (go_simp; rfl)); (case hp => exact (Reps.one (show Kd.M (Kd.int .i64) _ _ _ t158 [.int .i64 t158] from rfl) (Reps.one (show Kd.M (Kd.int .i64) _ _ _ t159 [.int .i64 t159] from rfl) (Reps.none _ _)))); intro v161 w16 ho17 hb hg_ hnew_; clear hg_ hnew_; (first | rw [← Ny160.out] at ho17 | (simp only [Int.reduceToNat] at ho17; rw [← Ny160.out] at ho17)); have n0_ := Aside0.mk (Kd.R_lower ho17 (below_size (zB))); have n1_ := Aside0.mk (below_step (zB) hb); clear HB; have HO162 := n0_; have HB := n1_; clear n0_ n1_; clear hb ho17; obtain ⟨Ao18, co18, eo18⟩ := Kd.R_slice HO162.out; subst eo18) | ((with_reducible refine gate_callee (f := 164) rfl ?_); refine goesL_ (some 33) rfl rfl Try.func164 (by kernel_rfl) rfl #[.slice Ao18 y160.length co18] rfl zM ?_; (with_reducible refine (cmp_Or_int.calls kj9 _ _ y160 t163 _ ?side1 ?side2 A15.out).mono ?_); (case side1 => repeat (first | exact (Kd.R_reads' HO162.out).2.2 | (with_reducible refine Kd.C_alloc ?_ _) | (with_reducible refine Kd.C_drewN ?_ _) | (with_reducible refine Kd.C_drew ?_))); (case side2 => exact (Kd.R_reads' HO162.out).2.1); rintro e w' ⟨rfl, ⟨nd, rfl⟩⟩; refine ⟨_, rfl, ?_⟩))
      go_ret
      exact ⟨zE, zB⟩
     ·replace c12 := Bool.eq_false_iff.mpr c12
      subst c12
      have H1 : (if x5_2 = true then (some (-1)) else (if x6_2 = true then (some 1) else ((cmp_Compare_string.f kj9 a0 a1).bind fun t164 => (some t164)))) = some r := by rw [if_neg (show ¬ (false = true) by decide)] at H; exact H
      clear H
      have H := H1
      clear H1
      by_cases c19 : x5_2 = true
      ·subst c19
       have H1 : (some (-1)) = some r := by rw [if_pos rfl] at H; exact H
       clear H
       have H := H1
       clear H1
       obtain rfl := Option.some.inj H
       go_wp2
       go_ret
       exact ⟨zE, zB⟩
      ·replace c19 := Bool.eq_false_iff.mpr c19
       subst c19
       have H1 : (if x6_2 = true then (some 1) else ((cmp_Compare_string.f kj9 a0 a1).bind fun t164 => (some t164))) = some r := by rw [if_neg (show ¬ (false = true) by decide)] at H; exact H
       clear H
       have H := H1
       clear H1
       by_cases c20 : x6_2 = true
       ·subst c20
        have H1 : (some 1) = some r := by rw [if_pos rfl] at H; exact H
        clear H
        have H := H1
        clear H1
        obtain rfl := Option.some.inj H
        go_wp2
        go_ret
        exact ⟨zE, zB⟩
       ·replace c20 := Bool.eq_false_iff.mpr c20
        subst c20
        have H1 : ((cmp_Compare_string.f kj9 a0 a1).bind fun t164 => (some t164)) = some r := by rw [if_neg (show ¬ (false = true) by decide)] at H; exact H
        clear H
        have H := H1
        clear H1
        replace H := Option.bind_eq_some_iff.mp H
        obtain ⟨t164, A210, H⟩ := H
        replace H : (some t164) = some r := H
        have A21 := Aside0.mk A210
        clear A210
        obtain rfl := Option.some.inj H
        go_wp2_with (first | ((with_reducible refine gate_callee (f := 182) rfl ?_); refine goesL_ (some 40) rfl rfl Try.func182 (by kernel_rfl) rfl #[.string a0, .string a1] rfl zM ?_; (with_reducible refine (cmp_Compare_string.calls kj9 a0 a1 t164 _ A21.out).mono ?_); rintro e w' ⟨rfl, ⟨nd, rfl⟩⟩; refine ⟨_, rfl, ?_⟩))
        go_ret
        exact ⟨zE, zB⟩
/-! ### slices_CompareFunc_string_string_string_string: function 166 -/
mutual
def slices_CompareFunc_string_string_string_string.l0 : Nat → List ByteArray → List ByteArray → List ByteArray → Int → Int → Option (Int)
 | 0, _, _, _, _, _ => none
 | k + 1, x0, x1, x11, x12, x13 => if x13 < x12 then (slices_CompareFunc_string_string_string_string.j1 k x0 x1 x11 x12 x13) else (if (x0.length : Int) < (x1.length : Int) then (some (-1)) else (some 0))
def slices_CompareFunc_string_string_string_string.j1 : Nat → List ByteArray → List ByteArray → List ByteArray → Int → Int → Option (Int)
 | 0, _, _, _, _, _ => none
 | k + 1, x0, x1, x11, x12, x13 => if 0 ≤ x13 then (if x13 < (x11.length : Int) then (if x13 ≥ (x1.length : Int) then (some 1) else (if x13 < (x1.length : Int) then ((impl_compareWords.f k (rdOf ByteArray.empty x11 x13) (rdOf ByteArray.empty x1 x13)).bind fun t167 => (if t167 = 0 then (slices_CompareFunc_string_string_string_string.l0 k x0 x1 x11 x12 (wrap64 (x13 + 1))) else (some t167))) else (none))) else (none)) else (none)
end
def slices_CompareFunc_string_string_string_string.f (k : Nat) (l0 : List ByteArray) (l1 : List ByteArray) : Option (Int) := slices_CompareFunc_string_string_string_string.l0 k l0 l1 l0 (l0.length : Int) 0
theorem slices_CompareFunc_string_string_string_string.calls (k : Nat) (A0 : Option Addr) (c0 : Nat) (l0 : List ByteArray) (A1 : Option Addr) (c1 : Nat) (l1 : List ByteArray) (r : Int) (w : World) (hr0 : Kd.C Kd.string w A0 l0.length l0) (hc0 : l0.length ≤ c0) (hr1 : Kd.C Kd.string w A1 l1.length l1) (hc1 : l1.length ≤ c1) (h : slices_CompareFunc_string_string_string_string.f k l0 l1 = some r) :
  Calls Try.prog 166 #[.slice A0 l0.length c0, .slice A1 l1.length c1, .func (.func 167) #[] #[]] w fun e w' => e = .returned (.int .i64 r) ∧ Below w.heap.size w w' := by
 have HR0 := Aside0.mk hr0
 have HC0 := Aside0.mk hc0
 clear hr0 hc0
 have HR1 := Aside0.mk hr1
 have HC1 := Aside0.mk hc1
 clear hr1 hc1
 have HB := Aside0.mk (Below.refl w.heap.size w)
 have H : (slices_CompareFunc_string_string_string_string.l0 k l0 l1 l0 (l0.length : Int) 0) = some r := h
 clear h
 have H' := Aside0.mk H
 clear H
 go_enter Try.func166, Try.ntmps166
 go_wp2
 go_loopg [13] k (fun kq v13 w' => ∃ (x13_1 : Int), v13 = .int .i64 x13_1 ∧ Aside0 (slices_CompareFunc_string_string_string_string.l0 kq l0 l1 l0 (l0.length : Int) x13_1 = some r) ∧ Aside0 (kq ≤ k) ∧ Aside0 (Below w.heap.size w w'))
 case atStart => exact ⟨(0), zS, H', ⟨Nat.le_refl _⟩, ⟨zB⟩⟩
 case round =>
  clear H'
  try clear c1
  try clear p2
  obtain ⟨x13_1, rfl, HA, HK1, HB⟩ := hrel
  cases gk with
  | zero => exact absurd HA.out (by simp [slices_CompareFunc_string_string_string_string.l0])
  | succ k1 =>
   have H := HA.out
   clear HA
   simp only [slices_CompareFunc_string_string_string_string.l0] at H
   have HC3 := Aside0.mk H
   clear H
   go_upto_if 14 with (fail)
   go_cut [] (fun wc => ∃ (kq : Nat), Aside0 (slices_CompareFunc_string_string_string_string.j1 kq l0 l1 l0 (l0.length : Int) x13_1 = some r) ∧ Aside0 (kq ≤ k1) ∧ Aside0 (Below w.heap.size w wc))
   case first =>
    have H := HC3.out
    clear HC3
    by_cases c4 : x13_1 < (l0.length : Int)
    ·rw [if_pos c4] at H
     have c4b0 : decide (x13_1 < (l0.length : Int)) = true := decide_eq_true c4
     clear c4
     (first | rw [c4b0] | (simp only [i64_w, i32_w]; rw [c4b0]) | skip)
     have H' := Aside0.mk H
     clear H
     go_wp2
     go_meet
     case rel => exact ⟨_, (by first | exact H' | (subst_vars; exact H')), ⟨by have := HK1.out; first | omega | exact Nat.le_refl _⟩, ⟨zB⟩⟩
    ·rw [if_neg c4] at H
     have c4b0 : decide (x13_1 < (l0.length : Int)) = false := decide_eq_false c4
     clear c4
     (first | rw [c4b0] | (simp only [i64_w, i32_w]; rw [c4b0]) | skip)
     by_cases c5 : (l0.length : Int) < (l1.length : Int)
     ·rw [if_pos c5] at H
      have c5b0 : decide ((l0.length : Int) < (l1.length : Int)) = true := decide_eq_true c5
      have c5b1 : decide (l0.length < l1.length) = true := decide_eq_true (Int.ofNat_lt.mp c5)
      clear c5
      obtain rfl := Option.some.inj H
      go_wp2
      go_ret
      exact ⟨zE, zB⟩
     ·rw [if_neg c5] at H
      have c5b0 : decide ((l0.length : Int) < (l1.length : Int)) = false := decide_eq_false c5
      have c5b1 : decide (l0.length < l1.length) = false := decide_eq_false (fun h => c5 (Int.ofNat_lt.mpr h))
      clear c5
      obtain rfl := Option.some.inj H
      go_wp2
      go_ret
      exact ⟨zE, zB⟩
   case rest =>
    clear HC3
    try clear c1
    try clear p2
    try clear c4
    try clear c4b0
    try clear c5
    try clear c5b0
    try clear c5b1
    try clear p2
    obtain ⟨kq, HA, HJ2, HB⟩ := hcut
    cases kq with
    | zero => exact absurd HA.out (by simp [slices_CompareFunc_string_string_string_string.j1])
    | succ kj2 =>
     have H := HA.out
     clear HA
     simp only [slices_CompareFunc_string_string_string_string.j1] at H
     by_cases c6 : 0 ≤ x13_1
     ·rw [if_pos c6] at H
      have c6b0 : decide (0 ≤ x13_1) = true := decide_eq_true c6
      clear c6
      by_cases c7 : x13_1 < (l0.length : Int)
      ·rw [if_pos c7] at H
       have c7b0 : decide (x13_1 < (l0.length : Int)) = true := decide_eq_true c7
       clear c7
       by_cases c8 : x13_1 ≥ (l1.length : Int)
       ·rw [if_pos c8] at H
        have c8b0 : decide ((l1.length : Int) ≤ x13_1) = true := decide_eq_true c8
        clear c8
        obtain rfl := Option.some.inj H
        have p165 : 0 ≤ (x13_1 : Int) := zD
        have q165 : x13_1 < (l0.length : Int) := zD
        obtain ⟨ad165, e165, hx165_0⟩ := Kd.at_string HR0.out x13_1 p165 q165
        cases e165
        replace hx165_0 := (HB.out.cell (World.block_lt_of_cell? w _ hx165_0)).trans hx165_0
        replace p165 := eq_true p165
        replace q165 := eq_true q165
        go_wp2
        go_ret
        exact ⟨zE, zB⟩
       ·rw [if_neg c8] at H
        have c8b0 : decide ((l1.length : Int) ≤ x13_1) = false := decide_eq_false c8
        clear c8
        by_cases c9 : x13_1 < (l1.length : Int)
        ·rw [if_pos c9] at H
         have c9b0 : decide (x13_1 < (l1.length : Int)) = true := decide_eq_true c9
         clear c9
         replace H := Option.bind_eq_some_iff.mp H
         obtain ⟨t167, A100, H⟩ := H
         replace H : (if t167 = 0 then (slices_CompareFunc_string_string_string_string.l0 kj2 l0 l1 l0 (l0.length : Int) (wrap64 (x13_1 + 1))) else (some t167)) = some r := H
         have A10 := Aside0.mk A100
         clear A100
         by_cases c11 : t167 = 0
         ·rw [if_pos c11] at H
          have c11b0 : (t167 == 0) = true := beq_iff_eq.mpr c11
          have c11b1 : (t167 != 0) = false := bne_eq_false_iff_eq.mpr c11
          clear c11
          have H' := Aside0.mk H
          clear H
          have p165 : 0 ≤ (x13_1 : Int) := zD
          have q165 : x13_1 < (l0.length : Int) := zD
          obtain ⟨ad165, e165, hx165_0⟩ := Kd.at_string HR0.out x13_1 p165 q165
          cases e165
          replace hx165_0 := (HB.out.cell (World.block_lt_of_cell? w _ hx165_0)).trans hx165_0
          replace p165 := eq_true p165
          replace q165 := eq_true q165
          have p166 : 0 ≤ (x13_1 : Int) := zD
          have q166 : x13_1 < (l1.length : Int) := zD
          obtain ⟨ad166, e166, hx166_0⟩ := Kd.at_string HR1.out x13_1 p166 q166
          cases e166
          replace hx166_0 := (HB.out.cell (World.block_lt_of_cell? w _ hx166_0)).trans hx166_0
          replace p166 := eq_true p166
          replace q166 := eq_true q166
          go_wp2_with (first | (go_at_call 167; (with_reducible refine (impl_compareWords.calls kj2 (rdOf ByteArray.empty l0 x13_1) (rdOf ByteArray.empty l1 x13_1) t167 _ A10.out).mono ?_); rintro e w12 ⟨rfl, hb⟩; have n0_ := Aside0.mk (below_step (zB) hb); clear HB; have HB := n0_; clear n0_; (try clear hb); (try clear hb2); (try clear hk); (try clear hi)))
          go_roundg kj2
          case measure => have := HK1.out; have := HJ2.out; omega
          case rel => exact ⟨(wrap64 (x13_1 + 1)), zS, H', ⟨by have := HK1.out; have := HJ2.out; omega⟩, ⟨zB⟩⟩
         ·rw [if_neg c11] at H
          have c11b0 : (t167 == 0) = false := beq_eq_false_iff_ne.mpr c11
          have c11b1 : (t167 != 0) = true := bne_iff_ne.mpr c11
          obtain rfl := Option.some.inj H
          have p165 : 0 ≤ (x13_1 : Int) := zD
          have q165 : x13_1 < (l0.length : Int) := zD
          obtain ⟨ad165, e165, hx165_0⟩ := Kd.at_string HR0.out x13_1 p165 q165
          cases e165
          replace hx165_0 := (HB.out.cell (World.block_lt_of_cell? w _ hx165_0)).trans hx165_0
          replace p165 := eq_true p165
          replace q165 := eq_true q165
          have p166 : 0 ≤ (x13_1 : Int) := zD
          have q166 : x13_1 < (l1.length : Int) := zD
          obtain ⟨ad166, e166, hx166_0⟩ := Kd.at_string HR1.out x13_1 p166 q166
          cases e166
          replace hx166_0 := (HB.out.cell (World.block_lt_of_cell? w _ hx166_0)).trans hx166_0
          replace p166 := eq_true p166
          replace q166 := eq_true q166
          go_wp2_with (first | (go_at_call 167; (with_reducible refine (impl_compareWords.calls kj2 (rdOf ByteArray.empty l0 x13_1) (rdOf ByteArray.empty l1 x13_1) t167 _ A10.out).mono ?_); rintro e w13 ⟨rfl, hb⟩; have n0_ := Aside0.mk (below_step (zB) hb); clear HB; have HB := n0_; clear n0_; (try clear hb); (try clear hb2); (try clear hk); (try clear hi)))
          go_ret
          exact ⟨zE, zB⟩
        ·rw [if_neg c9] at H
         exact absurd H (by simp)
      ·rw [if_neg c7] at H
       exact absurd H (by simp)
     ·rw [if_neg c6] at H
      exact absurd H (by simp)
end Go.Proofs.Ytfbbagddhfeefaa.PGL
