/- The walks of the functions that these laws reach, and what each comes to: printed by this session's program. -/
import Derived.Test.YtglhniiabhknoaaZGAPGAx0
import Derived.Test.YtglhniiabhknoaaZGAPGAx1
import Derived.Test.YtglhniiabhknoaaZGAPGAx4
import Derived.Test.YtglhniiabhknoaaZGAPGAx7
import Derived.Test.YtglhniiabhknoaaZGASays
import Derived.Test.YtglhniiabhknoaaZGARegs
namespace Go.Proofs.Ytglhniiabhknoaa.PGA
open Go.RowKit YtglhniiabhknoaaW.PrintWords YtglhniiabhknoaaW.PrintLast YtglhniiabhknoaaW.PrintMore
attribute [local go_sem high] Mine.str_gtr Mine.str_leq Mine.str_geq
attribute [local go_sem] max2_int min2_int max_two min_two max_three min_three max_four min_four   -- for this text's walks alone
set_option linter.unusedVariables false
set_option maxHeartbeats 8000000
set_option maxRecDepth 100000
set_option linter.unusedSimpArgs false
/-! ### laws_FnExactAtKey: function 3 -/
mutual
def laws_FnExactAtKey.j0 : Nat → ByteArray → Int → Int → ByteArray → List (S25) → List ByteArray → Option (Bool)
 | 0, _, _, _, _, _, _ => none
 | k + 1, x1, a0, a1, a2, a3, a4 => (laws_szVal.f k a0 a1 a2 a3 a4 1048576).bind fun d2 => (if d2 < 0 then (some true) else (laws_FnExactAtKey.j1 k x1 a0 a1 a2 a3 a4))
def laws_FnExactAtKey.j1 : Nat → ByteArray → Int → Int → ByteArray → List (S25) → List ByteArray → Option (Bool)
 | 0, _, _, _, _, _, _ => none
 | k + 1, x1, a0, a1, a2, a3, a4 => (laws_toVal.f k a0 a1 a2 a3 a4).bind fun c5 => ((spec_AtKey.f k c5.1 c5.2.1 c5.2.2.1 c5.2.2.2.1 c5.2.2.2.2 x1).bind fun b0 => ((laws_toVal.f k a0 a1 a2 a3 a4).bind fun b7 => ((impl_AtKey.f k b7.1 b7.2.1 b7.2.2.1 b7.2.2.2.1 b7.2.2.2.2 x1).bind fun b1 => ((laws_eqVal.f k b1.1 b1.2.1 b1.2.2.1 b1.2.2.2.1 b1.2.2.2.2.1 b0.1 b0.2.1 b0.2.2.1 b0.2.2.2.1 b0.2.2.2.2.1).bind fun d3 => (if d3 = true then (laws_FnExactAtKey.j2 k x1 b0.2.2.2.2.2 b1.2.2.2.2.2 (b1.2.2.2.2.2 != b0.2.2.2.2.2) a0 a1 a2 a3 a4 b0.1 b0.2.1 b0.2.2.1 b0.2.2.2.1 b0.2.2.2.2.1 b7.1 b7.2.1 b7.2.2.1 b7.2.2.2.1 b7.2.2.2.2 b1.1 b1.2.1 b1.2.2.1 b1.2.2.2.1 b1.2.2.2.2.1) else (laws_FnExactAtKey.j2 k x1 b0.2.2.2.2.2 b1.2.2.2.2.2 true a0 a1 a2 a3 a4 b0.1 b0.2.1 b0.2.2.1 b0.2.2.2.1 b0.2.2.2.2.1 b7.1 b7.2.1 b7.2.2.1 b7.2.2.2.1 b7.2.2.2.2 b1.1 b1.2.1 b1.2.2.1 b1.2.2.2.1 b1.2.2.2.2.1))))))
def laws_FnExactAtKey.j2 : Nat → ByteArray → Bool → Bool → Bool → Int → Int → ByteArray → List (S25) → List ByteArray → Int → Int → ByteArray → List (S29) → List ByteArray → Int → Int → ByteArray → List (S29) → List ByteArray → Int → Int → ByteArray → List (S29) → List ByteArray → Option (Bool)
 | 0, _, _, _, _, _, _, _, _, _, _, _, _, _, _, _, _, _, _, _, _, _, _, _, _ => none
 | k + 1, x1, x7, c6, d4, a0, a1, a2, a3, a4, b2, b3, b4, b5, b6, b9, c0, c1, c2, c3, a5, a6, a7, a8, a9 => if d4 = true then (none) else (laws_FnExactAtKey.j3 k x1 x7 c6 a0 a1 a2 a3 a4 b2 b3 b4 b5 b6 b9 c0 c1 c2 c3 a5 a6 a7 a8 a9)
def laws_FnExactAtKey.j3 : Nat → ByteArray → Bool → Bool → Int → Int → ByteArray → List (S25) → List ByteArray → Int → Int → ByteArray → List (S29) → List ByteArray → Int → Int → ByteArray → List (S29) → List ByteArray → Int → Int → ByteArray → List (S29) → List ByteArray → Option (Bool)
 | 0, _, _, _, _, _, _, _, _, _, _, _, _, _, _, _, _, _, _, _, _, _, _, _ => none
 | k + 1, x1, x7, c6, a0, a1, a2, a3, a4, b2, b3, b4, b5, b6, b9, c0, c1, c2, c3, a5, a6, a7, a8, a9 => (laws_toVal.f k a0 a1 a2 a3 a4).bind fun c7 => ((laws_eqVal.f k b9 c0 c1 c2 c3 c7.1 c7.2.1 c7.2.2.1 c7.2.2.2.1 c7.2.2.2.2).bind fun d5 => (if d5 = true then (laws_FnExactAtKey.j4 k x1 x7 c6 a0 a1 a2 a3 a4 b2 b3 b4 b5 b6 b9 c0 c1 c2 c3 a5 a6 a7 a8 a9) else (none)))
def laws_FnExactAtKey.j4 : Nat → ByteArray → Bool → Bool → Int → Int → ByteArray → List (S25) → List ByteArray → Int → Int → ByteArray → List (S29) → List ByteArray → Int → Int → ByteArray → List (S29) → List ByteArray → Int → Int → ByteArray → List (S29) → List ByteArray → Option (Bool)
 | 0, _, _, _, _, _, _, _, _, _, _, _, _, _, _, _, _, _, _, _, _, _, _, _ => none
 | k + 1, x1, x7, c6, a0, a1, a2, a3, a4, b2, b3, b4, b5, b6, b9, c0, c1, c2, c3, a5, a6, a7, a8, a9 => (laws_markVal.f k b9 c0 c1 c2 c3 1).bind fun d6 => (if d6.1 < 0 then (laws_FnExactAtKey.j5 k x1 x7 true a0 a1 a2 a3 a4 b2 b3 b4 b5 b6 a5 a6 a7 a8 a9) else ((laws_eqVal.f k a5 a6 a7 a8 a9 b2 b3 b4 b5 b6).bind fun d7 => (if d7 = true then (laws_FnExactAtKey.j5 k x1 x7 (c6 != x7) a0 a1 a2 a3 a4 b2 b3 b4 b5 b6 a5 a6 a7 a8 a9) else (laws_FnExactAtKey.j5 k x1 x7 true a0 a1 a2 a3 a4 b2 b3 b4 b5 b6 a5 a6 a7 a8 a9))))
def laws_FnExactAtKey.j5 : Nat → ByteArray → Bool → Bool → Int → Int → ByteArray → List (S25) → List ByteArray → Int → Int → ByteArray → List (S29) → List ByteArray → Int → Int → ByteArray → List (S29) → List ByteArray → Option (Bool)
 | 0, _, _, _, _, _, _, _, _, _, _, _, _, _, _, _, _, _, _ => none
 | k + 1, x1, x7, d8, a0, a1, a2, a3, a4, b2, b3, b4, b5, b6, a5, a6, a7, a8, a9 => if d8 = true then (none) else (laws_FnExactAtKey.j6 k x1 x7 a0 a1 a2 a3 a4 b2 b3 b4 b5 b6 a5 a6 a7 a8 a9)
def laws_FnExactAtKey.j6 : Nat → ByteArray → Bool → Int → Int → ByteArray → List (S25) → List ByteArray → Int → Int → ByteArray → List (S29) → List ByteArray → Int → Int → ByteArray → List (S29) → List ByteArray → Option (Bool)
 | 0, _, _, _, _, _, _, _, _, _, _, _, _, _, _, _, _, _ => none
 | k + 1, x1, x7, a0, a1, a2, a3, a4, b2, b3, b4, b5, b6, a5, a6, a7, a8, a9 => (laws_markVal.f k a5 a6 a7 a8 a9 1).bind fun c8 => ((laws_heldVal.f k a5 a6 a7 c8.2.1 c8.2.2 1).bind fun d0 => (if d0 < 0 then (none) else (laws_FnExactAtKey.j7 k x1 x7 c8.1 d0 a0 a1 a2 a3 a4 b2 b3 b4 b5 b6 a5 a6 a7 c8.2.1 c8.2.2)))
def laws_FnExactAtKey.j7 : Nat → ByteArray → Bool → Int → Int → Int → Int → ByteArray → List (S25) → List ByteArray → Int → Int → ByteArray → List (S29) → List ByteArray → Int → Int → ByteArray → List (S29) → List ByteArray → Option (Bool)
 | 0, _, _, _, _, _, _, _, _, _, _, _, _, _, _, _, _, _, _, _ => none
 | k + 1, x1, x7, b8, d9, a0, a1, a2, a3, a4, b2, b3, b4, b5, b6, a5, a6, a7, a8, a9 => if d9 = b8 then (laws_FnExactAtKey.j8 k x1 x7 b8 a0 a1 a2 a3 a4 b2 b3 b4 b5 b6 a5 a6 a7 a8 a9) else (none)
def laws_FnExactAtKey.j8 : Nat → ByteArray → Bool → Int → Int → Int → ByteArray → List (S25) → List ByteArray → Int → Int → ByteArray → List (S29) → List ByteArray → Int → Int → ByteArray → List (S29) → List ByteArray → Option (Bool)
 | 0, _, _, _, _, _, _, _, _, _, _, _, _, _, _, _, _, _, _ => none
 | k + 1, x1, x7, b8, a0, a1, a2, a3, a4, b2, b3, b4, b5, b6, a5, a6, a7, a8, a9 => (laws_toVal.f k a0 a1 a2 a3 a4).bind fun c9 => ((impl_AtKey.f k c9.1 c9.2.1 c9.2.2.1 c9.2.2.2.1 c9.2.2.2.2 x1).bind fun c4 => ((laws_eqVal.f k c4.1 c4.2.1 c4.2.2.1 c4.2.2.2.1 c4.2.2.2.2.1 b2 b3 b4 b5 b6).bind fun e0 => (if e0 = true then (laws_FnExactAtKey.j9 k b8 (c4.2.2.2.2.2 != x7) a5 a6 a7 a8 a9) else (laws_FnExactAtKey.j9 k b8 true a5 a6 a7 a8 a9))))
def laws_FnExactAtKey.j9 : Nat → Int → Bool → Int → Int → ByteArray → List (S29) → List ByteArray → Option (Bool)
 | 0, _, _, _, _, _, _, _ => none
 | k + 1, b8, e1, a5, a6, a7, a8, a9 => if e1 = true then (none) else (laws_FnExactAtKey.j10 k b8 a5 a6 a7 a8 a9)
def laws_FnExactAtKey.j10 : Nat → Int → Int → Int → ByteArray → List (S29) → List ByteArray → Option (Bool)
 | 0, _, _, _, _, _, _ => none
 | k + 1, b8, a5, a6, a7, a8, a9 => (laws_heldVal.f k a5 a6 a7 a8 a9 1).bind fun d1 => (if d1 < 0 then (none) else (if d1 = b8 then (some true) else (none)))
end
def laws_FnExactAtKey.f (k : Nat) (a0 a2 : Int) (a3 : ByteArray) (a4 : List (S25)) (a5 : List ByteArray) (a1 : ByteArray) : Option (Bool) := if (a1.size : Int) > 1048576 then (some true) else (laws_FnExactAtKey.j0 k a1 a0 a2 a3 a4 a5)
theorem laws_FnExactAtKey.calls (k : Nat) (g9 h0 : Int) (h1 : ByteArray) (i4 : Option Addr) (i5 : Nat) (g4 : List (S25)) (i6 : Option Addr) (i7 : Nat) (g5 : List ByteArray) (a1 : ByteArray) (r : Bool) (w : World) (R5 : Kd.C k25 w i4 g4.length g4) (R6 : g4.length ≤ i5) (R7 : Kd.C Kd.string w i6 g5.length g5) (R8 : g5.length ≤ i7) (h : laws_FnExactAtKey.f k g9 h0 h1 g4 g5 a1 = some r) :
  Calls Try.prog 3 #[.agg #[.int .i64 g9, .int .i64 h0, .string h1, .slice i4 g4.length i5, .slice i6 g5.length i7], .string a1] w fun e w' => e = .returned (.bool r) ∧ Below w.heap.size w w' := by
 have a1v := Try.underlying25
 have a1x := Try.underlying29
 have I1 := zA R5
 have I2 := zA R6
 clear R5 R6
 have I3 := zA R7
 have I4 := zA R8
 clear R7 R8
 have HB := zA (Below.refl w.heap.size w)
 unfold laws_FnExactAtKey.f at h
 have H := h
 clear h
 have N3 := zA H
 clear H
 go_enter Try.func3, Try.ntmps3
 go_upto_if 18 with (first | ((with_reducible refine zd 2 ?_); refine ze 2 25 #[.int .i64 g9, .int .i64 h0, .string h1, .slice i4 g4.length i5, .slice i6 g5.length i7] ?_; intro i8 hg w4 hbox hb; have b2 := zA (hbox); have a1y := zi HB hg; have a1z := zi HB hg; replace HB := zA (below_step (zB) hb); clear hb hbox hg))
 (try simp only [Act.put, zT])
 go_cut [] (fun wc => ∃ (kq : Nat), Aside0 (laws_FnExactAtKey.j0 kq a1 g9 h0 h1 g4 g5 = some r) ∧ Aside0 (kq ≤ k) ∧ Aside0 (wc.heap[i8]? = some (.cells #[.int .i64 g9, .int .i64 h0, .string h1, (.slice i4 g4.length i5), (.slice i6 g5.length i7)] 25 (0, 0))) ∧ Aside0 (Below w.heap.size w wc))
 case first =>
  have H := N3.out; clear N3; replace H := zI1 H
  rcases H with ⟨c5, H⟩ | ⟨c5, H⟩
  ·have k0 : decide (1048576 < (a1.size : Int)) = true := decide_eq_true c5; have l2 : decide (1048576 < a1.size) = true := decide_eq_true (by omega); clear c5
   (first | rw [k0] | (simp only [i64_w, i32_w]; rw [k0]) | skip)
   obtain rfl := zm H
   go_wp2
   go_ret
   exact ⟨zE, zW HB.out⟩
  have k0 : decide (1048576 < (a1.size : Int)) = false := decide_eq_false c5; have l2 : decide (1048576 < a1.size) = false := decide_eq_false (by omega); clear c5
  (first | rw [k0] | (simp only [i64_w, i32_w]; rw [k0]) | skip)
  have H' := zA H; clear H
  go_wp2
  go_meet
  case rel => exact ⟨_, (by first | exact H' | (subst_vars; exact H')), ⟨by first | omega | exact Nat.le_refl _⟩, ⟨zK b2.out⟩, ⟨zW HB.out⟩⟩
 case rest =>
  clear N3
  try clear p2
  try clear c3
  try clear c5
  try clear k0
  try clear l2
  obtain ⟨kq, HA, k4, b2, HB⟩ := hcut
  cases kq with
  | zero => exact absurd HA.out (by simp [laws_FnExactAtKey.j0])
  | succ R9 =>
   have H := HA.out; clear HA; simp only [laws_FnExactAtKey.j0] at H; replace H := Option.bind_eq_some_iff.mp H; obtain ⟨a0n, T0, H⟩ := H
   try dsimp only at H
   have A6 := zA T0; clear T0; have N4 := zA H; clear H; obtain ⟨m0, m1, m2, m3, m4, m5, m6, m7, m8, m9⟩ := ze5 b2.out
   go_upto_if 23 with (first | ((with_reducible refine zq 6 ?_); refine zg (some 21) Try.func6 #[.agg #[.int .i64 g9, .int .i64 h0, .string h1, .slice i4 g4.length i5, .slice i6 g5.length i7], .int .i64 1048576] ?_; (with_reducible refine (laws_szVal.calls R9 g9 h0 h1 _ _ g4 _ _ g5 1048576 a0n _ ?s1 ?s2 ?s3 ?s4 A6.out).mono ?_); (case s1 => exact zC (Kd.C_below I1.out HB.out)); (case s2 => exact I2.out); (case s3 => exact zC (Kd.C_below I3.out HB.out)); (case s4 => exact I4.out); rintro e w9 ⟨rfl, hb⟩; refine ⟨_, rfl, ?_⟩; replace b2 := zb b2 hb; replace HB := zh HB hb; (try clear hb)))
   (try simp only [Act.put, zT])
   go_cut [] (fun wc => ∃ (kq : Nat), Aside0 (laws_FnExactAtKey.j1 kq a1 g9 h0 h1 g4 g5 = some r) ∧ Aside0 (kq ≤ R9) ∧ Aside0 (wc.heap[i8]? = some (.cells #[.int .i64 g9, .int .i64 h0, .string h1, (.slice i4 g4.length i5), (.slice i6 g5.length i7)] 25 (0, 0))) ∧ Aside0 (Below w.heap.size w wc))
   case first =>
    have H := N4.out; clear N4; replace H := zI0 H
    rcases H with ⟨k3, H⟩ | ⟨k3, H⟩
    ·(first | rw [k3] | (simp only [i64_w, i32_w]; rw [k3]) | skip)
     obtain rfl := zm H
     go_wp2
     go_ret
     exact ⟨zE, zW HB.out⟩
    (first | rw [k3] | (simp only [i64_w, i32_w]; rw [k3]) | skip)
    have H' := zA H; clear H
    go_wp2
    go_meet
    case rel => exact ⟨_, (by first | exact H' | (subst_vars; exact H')), ⟨by have := k4.out; first | omega | exact Nat.le_refl _⟩, ⟨zK b2.out⟩, ⟨zW HB.out⟩⟩
   case rest =>
    clear N4
    try clear c1
    try clear p2
    try clear c3
    try clear c5
    try clear k0
    try clear l2
    try clear c6
    try clear c10
    try clear k3
    try clear m0 m1 m2 m3 m4 m5 m6 m7 m8 m9
    try clear p2
    obtain ⟨kq, HA, k5, b2, HB⟩ := hcut
    cases kq with
    | zero => exact absurd HA.out (by simp [laws_FnExactAtKey.j1])
    | succ A8 =>
     have H := HA.out; clear HA; simp only [laws_FnExactAtKey.j1] at H; replace H := Option.bind_eq_some_iff.mp H; obtain ⟨⟨N5, N6, N7, z7, k6⟩, T1, H⟩ := H
     try dsimp only at H
     have A11 := zA T1; clear T1; replace H := Option.bind_eq_some_iff.mp H; obtain ⟨⟨f4, f6, f8, b4, a2, l4⟩, T2, H⟩ := H
     try dsimp only at H
     have A12 := zA T2; clear T2; replace H := Option.bind_eq_some_iff.mp H; obtain ⟨⟨f9, g2, g6, f1, d4⟩, T3, H⟩ := H
     try dsimp only at H
     have A13 := zA T3; clear T3; replace H := Option.bind_eq_some_iff.mp H; obtain ⟨⟨e6, e7, e9, d2, b1, B2⟩, T4, H⟩ := H
     try dsimp only at H
     have A14 := zA T4; clear T4; have N8 := zA H; clear H; obtain ⟨n1, n2, n3, n4, n5, n6, n7, n8, n9, o0⟩ := ze5 b2.out
     go_upto_region 10 with (first | ((with_reducible refine zq 8 ?_); refine zg (some 26) Try.func8 #[.agg #[.int .i64 g9, .int .i64 h0, .string h1, .slice i4 g4.length i5, .slice i6 g5.length i7]] ?_; (with_reducible refine (laws_toVal.calls A8 g9 h0 h1 _ _ g4 _ _ g5 N5 N6 N7 z7 k6 _ ?s1 ?s2 ?s3 ?s4 A11.out).mono ?_); (case s1 => exact zC (Kd.C_below I1.out HB.out)); (case s2 => exact I2.out); (case s3 => exact zC (Kd.C_below I3.out HB.out)); (case s4 => exact I4.out); rintro e w17 ⟨a21, a22, rfl, g7, f0, hb⟩; refine ⟨_, rfl, ?_⟩; obtain ⟨a23, N9⟩ := Deep.named hb; have i3 := zA (Kd.S_lower (Deep.S_newT N9 g7) (below_size (zW HB.out))); have i0 := zA (Kd.R_lower (Deep.R_newT N9 f0) (below_size (zW HB.out))); replace b2 := zb b2 hb; replace HB := zh HB hb; clear N9; (try clear hb g7 f0); obtain ⟨B3, B4, a0s⟩ := Kd.S_slice i3.out; subst a0s; obtain ⟨l5, l6, a0t⟩ := Kd.R_slice i0.out; subst a0t) | ((with_reducible refine zq 7 ?_); refine zg (some 28) Try.func7 #[.agg #[.int .i64 N5, .int .i64 N6, .string N7, .slice B3 z7.length B4, .slice l5 k6.length l6], .string a1] ?_; (with_reducible refine (spec_AtKey.calls A8 N5 N6 N7 _ _ z7 _ _ k6 a1 f4 f6 f8 b4 a2 l4 _ ?s1 ?s2 ?s3 ?s4 A12.out).mono ?_); (case s1 => exact zC (Kd.S_reads' i3.out).2.2); (case s2 => exact (Kd.S_reads' i3.out).2.1); (case s3 => exact zC (Kd.R_reads' i0.out).2.2); (case s4 => exact (Kd.R_reads' i0.out).2.1); rintro e w21 ⟨a25, a26, rfl, g7, f0, hb⟩; refine ⟨_, rfl, ?_⟩; obtain ⟨h6, J6⟩ := Deep.named hb; have i2 := zA (Kd.S_lower (Kd.S_new' (Kd.S_new' (Deep.S_newT J6 g7) (Kd.S_lt (by (with_reducible repeat (first | apply Kd.S_alloc | apply Kd.S_drewN | apply Kd.S_drew)); exact i3.out))) (Kd.R_lt (zR i0.out))) (below_size (zW HB.out))); replace i3 := zA (Deep.S_oldT J6 (Kd.S_told (Kd.S_told (Kd.S_old (by (with_reducible repeat (first | apply Kd.S_alloc | apply Kd.S_drewN | apply Kd.S_drew)); exact i3.out) hb) (Kd.S_base g7)) (Kd.R_base f0))); have i1 := zA (Kd.R_lower (Kd.R_new' (Deep.R_newT J6 f0) (Kd.R_lt (zR i0.out))) (below_size (zW HB.out))); replace i0 := zA (Kd.R_elder' (zR i0.out) (Kd.R_base f0) hb); replace b2 := zb b2 hb; replace HB := zh HB hb; clear J6; (try clear hb g7 f0)) | ((with_reducible refine zd 6 ?_); refine ze 6 29 #[.int .i64 0, .int .i64 0, .string (⟨#[]⟩ : ByteArray), .slice none 0 0, .slice none 0 0] ?_; intro b5 hg w23 hbox hb; replace i3 := zA (Kd.S_below (Kd.S_elderB (by (with_reducible repeat (first | apply Kd.S_alloc | apply Kd.S_drewN | apply Kd.S_drew)); exact i3.out) b5 (Nat.le_of_eq hg.symm)) hb); replace i0 := zr i0 hb; replace i2 := zA (Kd.S_below (Kd.S_elderB (by (with_reducible repeat (first | apply Kd.S_alloc | apply Kd.S_drewN | apply Kd.S_drew)); exact i2.out) b5 (Nat.le_of_eq hg.symm)) hb); replace i1 := zr i1 hb; have b3 := zA (hbox); have a28 := zi HB hg; have a29 := zi HB hg; replace HB := zh HB hb; have z8 := zA (zL hg (zK b2.out)); have z9 := zA (zJ hg (zK b2.out)); replace b2 := zb b2 hb; clear hb hbox hg; have a2a := z9.out; have a2b := z8.out; obtain ⟨o1, o2, o3, o4, o5, o6, o7, o8, o9, p0⟩ := ze5 b3.out; obtain ⟨e0, d6, a0v⟩ := Kd.S_slice i2.out; subst a0v; obtain ⟨a9, a8, a0x⟩ := Kd.R_slice i1.out; subst a0x; obtain ⟨p1, p3, p4, p5, p6, p7, p8, p9, q0, q1⟩ := ze5 b2.out) | ((with_reducible refine zq 8 ?_); refine zg (some 32) Try.func8 #[.agg #[.int .i64 g9, .int .i64 h0, .string h1, .slice i4 g4.length i5, .slice i6 g5.length i7]] ?_; (with_reducible refine (laws_toVal.calls A8 g9 h0 h1 _ _ g4 _ _ g5 f9 g2 g6 f1 d4 _ ?s1 ?s2 ?s3 ?s4 A13.out).mono ?_); (case s1 => exact Kd.C_below I1.out (zW HB.out)); (case s2 => exact I2.out); (case s3 => exact Kd.C_below I3.out (zW HB.out)); (case s4 => exact I4.out); rintro e w29 ⟨a2d, a2e, rfl, g7, f0, hb⟩; refine ⟨_, rfl, ?_⟩; obtain ⟨g0, I5⟩ := Deep.named hb; have k1 := zA (Kd.S_lower (Kd.S_newB (Kd.S_new' (Kd.S_new' (Kd.S_new' (Kd.S_new' (Deep.S_newT I5 g7) (Kd.S_lt (by (with_reducible repeat (first | apply Kd.S_alloc | apply Kd.S_drewN | apply Kd.S_drew)); exact (Kd.S_mono (Kd.S_far (p := ⟨b5, 4, none⟩) (Kd.S_far (p := ⟨b5, 3, none⟩) (Kd.S_far (p := ⟨b5, 2, none⟩) (Kd.S_far (p := ⟨b5, 1, none⟩) (Kd.S_far (p := ⟨b5, 0, none⟩) (Kd.S_mono i3.out (fun k_ hk => (⟨hk, hk.2⟩ : _ ∧ k_ ≠ b5))) (fun _ hk => hk.2) (.int .i64 f4)) (fun _ hk => hk.2) (.int .i64 f6)) (fun _ hk => hk.2) (.string f8)) (fun _ hk => hk.2) (.slice e0 b4.length d6)) (fun _ hk => hk.2) (.slice a9 a2.length a8)) (fun _ h_ => h_.1))))) (Kd.R_lt (zR (zr5 i0.out b3.out)))) (Kd.S_lt (by (with_reducible repeat (first | apply Kd.S_alloc | apply Kd.S_drewN | apply Kd.S_drew)); exact (Kd.S_mono (Kd.S_far (p := ⟨b5, 4, none⟩) (Kd.S_far (p := ⟨b5, 3, none⟩) (Kd.S_far (p := ⟨b5, 2, none⟩) (Kd.S_far (p := ⟨b5, 1, none⟩) (Kd.S_far (p := ⟨b5, 0, none⟩) (Kd.S_mono i2.out (fun k_ hk => (⟨hk, hk.2⟩ : _ ∧ k_ ≠ b5))) (fun _ hk => hk.2) (.int .i64 f4)) (fun _ hk => hk.2) (.int .i64 f6)) (fun _ hk => hk.2) (.string f8)) (fun _ hk => hk.2) (.slice e0 b4.length d6)) (fun _ hk => hk.2) (.slice a9 a2.length a8)) (fun _ h_ => h_.1))))) (Kd.R_lt (zR (zr5 i1.out b3.out)))) (g := b5) (o := .cells #[.int .i64 f4, .int .i64 f6, .string f8, .slice e0 b4.length d6, .slice a9 a2.length a8] 29 (0, 0)) (by (with_reducible repeat (first | refine blk_drewN ?_ _ | refine blk_drew ?_ | refine blk_alloc ?_ _)); refine blk_put (cs := #[.int .i64 f4, .int .i64 f6, .string f8, .slice e0 b4.length d6, .slice none 0 0]) ?_ 4 _ rfl; (with_reducible repeat (first | refine blk_drewN ?_ _ | refine blk_drew ?_ | refine blk_alloc ?_ _)); refine blk_put (cs := #[.int .i64 f4, .int .i64 f6, .string f8, .slice none 0 0, .slice none 0 0]) ?_ 3 _ rfl; (with_reducible repeat (first | refine blk_drewN ?_ _ | refine blk_drew ?_ | refine blk_alloc ?_ _)); refine blk_put (cs := #[.int .i64 f4, .int .i64 f6, .string (⟨#[]⟩ : ByteArray), .slice none 0 0, .slice none 0 0]) ?_ 2 _ rfl; (with_reducible repeat (first | refine blk_drewN ?_ _ | refine blk_drew ?_ | refine blk_alloc ?_ _)); refine blk_put (cs := #[.int .i64 f4, .int .i64 0, .string (⟨#[]⟩ : ByteArray), .slice none 0 0, .slice none 0 0]) ?_ 1 _ rfl; (with_reducible repeat (first | refine blk_drewN ?_ _ | refine blk_drew ?_ | refine blk_alloc ?_ _)); refine blk_put (cs := #[.int .i64 0, .int .i64 0, .string (⟨#[]⟩ : ByteArray), .slice none 0 0, .slice none 0 0]) ?_ 0 _ rfl; (with_reducible repeat (first | refine blk_drewN ?_ _ | refine blk_drew ?_ | refine blk_alloc ?_ _)); exact b3.out)) (below_size (zW HB.out))); replace i3 := zA (Deep.S_oldT I5 (Kd.S_told (Kd.S_told (Kd.S_old (by (with_reducible repeat (first | apply Kd.S_alloc | apply Kd.S_drewN | apply Kd.S_drew)); exact (Kd.S_mono (Kd.S_far (p := ⟨b5, 4, none⟩) (Kd.S_far (p := ⟨b5, 3, none⟩) (Kd.S_far (p := ⟨b5, 2, none⟩) (Kd.S_far (p := ⟨b5, 1, none⟩) (Kd.S_far (p := ⟨b5, 0, none⟩) (Kd.S_mono i3.out (fun k_ hk => (⟨hk, hk.2⟩ : _ ∧ k_ ≠ b5))) (fun _ hk => hk.2) (.int .i64 f4)) (fun _ hk => hk.2) (.int .i64 f6)) (fun _ hk => hk.2) (.string f8)) (fun _ hk => hk.2) (.slice e0 b4.length d6)) (fun _ hk => hk.2) (.slice a9 a2.length a8)) (fun _ h_ => h_.1))) hb) (Kd.S_base g7)) (Kd.R_base f0))); replace i2 := zA (Deep.S_oldT I5 (Kd.S_told (Kd.S_told (Kd.S_old (by (with_reducible repeat (first | apply Kd.S_alloc | apply Kd.S_drewN | apply Kd.S_drew)); exact (Kd.S_mono (Kd.S_far (p := ⟨b5, 4, none⟩) (Kd.S_far (p := ⟨b5, 3, none⟩) (Kd.S_far (p := ⟨b5, 2, none⟩) (Kd.S_far (p := ⟨b5, 1, none⟩) (Kd.S_far (p := ⟨b5, 0, none⟩) (Kd.S_mono i2.out (fun k_ hk => (⟨hk, hk.2⟩ : _ ∧ k_ ≠ b5))) (fun _ hk => hk.2) (.int .i64 f4)) (fun _ hk => hk.2) (.int .i64 f6)) (fun _ hk => hk.2) (.string f8)) (fun _ hk => hk.2) (.slice e0 b4.length d6)) (fun _ hk => hk.2) (.slice a9 a2.length a8)) (fun _ h_ => h_.1))) hb) (Kd.S_base g7)) (Kd.R_base f0))); have i9 := zA (Kd.R_lower (Kd.R_new' (Kd.R_new' (Deep.R_newT I5 f0) (Kd.R_lt (zR (zr5 i0.out b3.out)))) (Kd.R_lt (zR (zr5 i1.out b3.out)))) (below_size (zW HB.out))); replace i0 := zA (Kd.R_elder' (zR (zr5 i0.out b3.out)) (Kd.R_base f0) hb); replace i1 := zA (Kd.R_elder' (zR (zr5 i1.out b3.out)) (Kd.R_base f0) hb); replace b2 := zb b2 hb; replace b3 := zA (blk_below (g := b5) (o := .cells #[.int .i64 f4, .int .i64 f6, .string f8, .slice e0 b4.length d6, .slice a9 a2.length a8] 29 (0, 0)) (by (with_reducible repeat (first | refine blk_drewN ?_ _ | refine blk_drew ?_ | refine blk_alloc ?_ _)); refine blk_put (cs := #[.int .i64 f4, .int .i64 f6, .string f8, .slice e0 b4.length d6, .slice none 0 0]) ?_ 4 _ rfl; (with_reducible repeat (first | refine blk_drewN ?_ _ | refine blk_drew ?_ | refine blk_alloc ?_ _)); refine blk_put (cs := #[.int .i64 f4, .int .i64 f6, .string f8, .slice none 0 0, .slice none 0 0]) ?_ 3 _ rfl; (with_reducible repeat (first | refine blk_drewN ?_ _ | refine blk_drew ?_ | refine blk_alloc ?_ _)); refine blk_put (cs := #[.int .i64 f4, .int .i64 f6, .string (⟨#[]⟩ : ByteArray), .slice none 0 0, .slice none 0 0]) ?_ 2 _ rfl; (with_reducible repeat (first | refine blk_drewN ?_ _ | refine blk_drew ?_ | refine blk_alloc ?_ _)); refine blk_put (cs := #[.int .i64 f4, .int .i64 0, .string (⟨#[]⟩ : ByteArray), .slice none 0 0, .slice none 0 0]) ?_ 1 _ rfl; (with_reducible repeat (first | refine blk_drewN ?_ _ | refine blk_drew ?_ | refine blk_alloc ?_ _)); refine blk_put (cs := #[.int .i64 0, .int .i64 0, .string (⟨#[]⟩ : ByteArray), .slice none 0 0, .slice none 0 0]) ?_ 0 _ rfl; (with_reducible repeat (first | refine blk_drewN ?_ _ | refine blk_drew ?_ | refine blk_alloc ?_ _)); exact b3.out) hb); replace HB := zh HB hb; clear I5; (try clear hb g7 f0)) | ((with_reducible refine zd 8 ?_); refine ze 8 29 #[.int .i64 0, .int .i64 0, .string (⟨#[]⟩ : ByteArray), .slice none 0 0, .slice none 0 0] ?_; intro a7 hg w31 hbox hb; replace i3 := zA (Kd.S_below (Kd.S_elderB (by (with_reducible repeat (first | apply Kd.S_alloc | apply Kd.S_drewN | apply Kd.S_drew)); exact i3.out) a7 (Nat.le_of_eq hg.symm)) hb); replace i0 := zr i0 hb; replace i2 := zA (Kd.S_below (Kd.S_elderB (by (with_reducible repeat (first | apply Kd.S_alloc | apply Kd.S_drewN | apply Kd.S_drew)); exact i2.out) a7 (Nat.le_of_eq hg.symm)) hb); replace i1 := zr i1 hb; replace k1 := zA (Kd.S_below (Kd.S_elderB (by (with_reducible repeat (first | apply Kd.S_alloc | apply Kd.S_drewN | apply Kd.S_drew)); exact k1.out) a7 (Nat.le_of_eq hg.symm)) hb); replace i9 := zr i9 hb; have b7 := zA (hbox); have a2g := zi HB hg; have a2h := zi HB hg; replace HB := zh HB hb; have O0 := zA (zL hg (zK b2.out)); have O1 := zA (zJ hg (zK b2.out)); replace b2 := zb b2 hb; have A0 := zA (zL hg (zK b3.out)); have A1 := zA (zJ hg (zK b3.out)); replace b3 := zb b3 hb; clear hb hbox hg; have a2i := O1.out; have a2j := O0.out; have a2k := A1.out; have a2l := A0.out; obtain ⟨q2, q3, q4, q5, q6, q7, q8, q9, r0, r1⟩ := ze5 b7.out; obtain ⟨d5, d3, a0y⟩ := Kd.S_slice k1.out; subst a0y; obtain ⟨a6, a5, a0z⟩ := Kd.R_slice i9.out; subst a0z) | ((with_reducible refine zq 9 ?_); refine zg (some 36) Try.func9 #[.agg #[.int .i64 f9, .int .i64 g2, .string g6, .slice d5 f1.length d3, .slice a6 d4.length a5], .string a1] ?_; (with_reducible refine (impl_AtKey.calls A8 f9 g2 g6 _ _ f1 _ _ d4 a1 e6 e7 e9 d2 b1 B2 _ ?s1 ?s2 ?s3 ?s4 A14.out).mono ?_); (case s1 => refine (Kd.S_reads' (e := 29) (base := w.heap.size) (ok := fun k_ => (((((((some k_ ≠ (.slice a6 d4.length a5 : Value).ownBlock ∧ g0 k_) ∧ some k_ ≠ (.slice B3 z7.length B4 : Value).ownBlock) ∧ some k_ ≠ (.slice l5 k6.length l6 : Value).ownBlock) ∧ some k_ ≠ (.slice e0 b4.length d6 : Value).ownBlock) ∧ some k_ ≠ (.slice a9 a2.length a8 : Value).ownBlock) ∧ k_ ≠ b5) ∧ k_ ≠ a7)) (n := f1.length) (c := d3) ?_).2.2; exact (by (with_reducible repeat (first | apply Kd.S_alloc | apply Kd.S_drewN | apply Kd.S_drew)); exact (Kd.S_mono (Kd.S_far (p := ⟨a7, 4, none⟩) (Kd.S_far (p := ⟨a7, 3, none⟩) (Kd.S_far (p := ⟨a7, 2, none⟩) (Kd.S_far (p := ⟨a7, 1, none⟩) (Kd.S_far (p := ⟨a7, 0, none⟩) (Kd.S_mono k1.out (fun k_ hk => (⟨hk, hk.2⟩ : _ ∧ k_ ≠ a7))) (fun _ hk => hk.2) (.int .i64 f9)) (fun _ hk => hk.2) (.int .i64 g2)) (fun _ hk => hk.2) (.string g6)) (fun _ hk => hk.2) (.slice d5 f1.length d3)) (fun _ hk => hk.2) (.slice a6 d4.length a5)) (fun _ h_ => h_.1)))); (case s2 => exact (Kd.S_reads' k1.out).2.1); (case s3 => refine (Kd.R_reads' (e := 9) (base := w.heap.size) (ok := fun k_ => (((True ∧ g0 k_) ∧ some k_ ≠ (.slice l5 k6.length l6 : Value).ownBlock) ∧ some k_ ≠ (.slice a9 a2.length a8 : Value).ownBlock)) (n := d4.length) (c := a5) ?_).2.2; exact (zR (zr5 i9.out b7.out))); (case s4 => exact (Kd.R_reads' i9.out).2.1); rintro e w37 ⟨a2n, a2o, rfl, g7, f0, hb⟩; refine ⟨_, rfl, ?_⟩; obtain ⟨e8, B5⟩ := Deep.named hb; have k7 := zA (Kd.S_lower (Kd.S_newB (Kd.S_newB (Kd.S_new' (Kd.S_new' (Kd.S_new' (Kd.S_new' (Kd.S_new' (Kd.S_new' (Deep.S_newT B5 g7) (Kd.S_lt (by (with_reducible repeat (first | apply Kd.S_alloc | apply Kd.S_drewN | apply Kd.S_drew)); exact (Kd.S_mono (Kd.S_far (p := ⟨a7, 4, none⟩) (Kd.S_far (p := ⟨a7, 3, none⟩) (Kd.S_far (p := ⟨a7, 2, none⟩) (Kd.S_far (p := ⟨a7, 1, none⟩) (Kd.S_far (p := ⟨a7, 0, none⟩) (Kd.S_mono i3.out (fun k_ hk => (⟨hk, hk.2⟩ : _ ∧ k_ ≠ a7))) (fun _ hk => hk.2) (.int .i64 f9)) (fun _ hk => hk.2) (.int .i64 g2)) (fun _ hk => hk.2) (.string g6)) (fun _ hk => hk.2) (.slice d5 f1.length d3)) (fun _ hk => hk.2) (.slice a6 d4.length a5)) (fun _ h_ => h_.1))))) (Kd.R_lt (zR (zr5 i0.out b7.out)))) (Kd.S_lt (by (with_reducible repeat (first | apply Kd.S_alloc | apply Kd.S_drewN | apply Kd.S_drew)); exact (Kd.S_mono (Kd.S_far (p := ⟨a7, 4, none⟩) (Kd.S_far (p := ⟨a7, 3, none⟩) (Kd.S_far (p := ⟨a7, 2, none⟩) (Kd.S_far (p := ⟨a7, 1, none⟩) (Kd.S_far (p := ⟨a7, 0, none⟩) (Kd.S_mono i2.out (fun k_ hk => (⟨hk, hk.2⟩ : _ ∧ k_ ≠ a7))) (fun _ hk => hk.2) (.int .i64 f9)) (fun _ hk => hk.2) (.int .i64 g2)) (fun _ hk => hk.2) (.string g6)) (fun _ hk => hk.2) (.slice d5 f1.length d3)) (fun _ hk => hk.2) (.slice a6 d4.length a5)) (fun _ h_ => h_.1))))) (Kd.R_lt (zR (zr5 i1.out b7.out)))) (Kd.S_lt (by (with_reducible repeat (first | apply Kd.S_alloc | apply Kd.S_drewN | apply Kd.S_drew)); exact (Kd.S_mono (Kd.S_far (p := ⟨a7, 4, none⟩) (Kd.S_far (p := ⟨a7, 3, none⟩) (Kd.S_far (p := ⟨a7, 2, none⟩) (Kd.S_far (p := ⟨a7, 1, none⟩) (Kd.S_far (p := ⟨a7, 0, none⟩) (Kd.S_mono k1.out (fun k_ hk => (⟨hk, hk.2⟩ : _ ∧ k_ ≠ a7))) (fun _ hk => hk.2) (.int .i64 f9)) (fun _ hk => hk.2) (.int .i64 g2)) (fun _ hk => hk.2) (.string g6)) (fun _ hk => hk.2) (.slice d5 f1.length d3)) (fun _ hk => hk.2) (.slice a6 d4.length a5)) (fun _ h_ => h_.1))))) (Kd.R_lt (zR (zr5 i9.out b7.out)))) (g := b5) (o := .cells #[.int .i64 f4, .int .i64 f6, .string f8, .slice e0 b4.length d6, .slice a9 a2.length a8] 29 (0, 0)) (zK b3.out)) (g := a7) (o := .cells #[.int .i64 f9, .int .i64 g2, .string g6, .slice d5 f1.length d3, .slice a6 d4.length a5] 29 (0, 0)) (by (with_reducible repeat (first | refine blk_drewN ?_ _ | refine blk_drew ?_ | refine blk_alloc ?_ _)); refine blk_put (cs := #[.int .i64 f9, .int .i64 g2, .string g6, .slice d5 f1.length d3, .slice none 0 0]) ?_ 4 _ rfl; (with_reducible repeat (first | refine blk_drewN ?_ _ | refine blk_drew ?_ | refine blk_alloc ?_ _)); refine blk_put (cs := #[.int .i64 f9, .int .i64 g2, .string g6, .slice none 0 0, .slice none 0 0]) ?_ 3 _ rfl; (with_reducible repeat (first | refine blk_drewN ?_ _ | refine blk_drew ?_ | refine blk_alloc ?_ _)); refine blk_put (cs := #[.int .i64 f9, .int .i64 g2, .string (⟨#[]⟩ : ByteArray), .slice none 0 0, .slice none 0 0]) ?_ 2 _ rfl; (with_reducible repeat (first | refine blk_drewN ?_ _ | refine blk_drew ?_ | refine blk_alloc ?_ _)); refine blk_put (cs := #[.int .i64 f9, .int .i64 0, .string (⟨#[]⟩ : ByteArray), .slice none 0 0, .slice none 0 0]) ?_ 1 _ rfl; (with_reducible repeat (first | refine blk_drewN ?_ _ | refine blk_drew ?_ | refine blk_alloc ?_ _)); refine blk_put (cs := #[.int .i64 0, .int .i64 0, .string (⟨#[]⟩ : ByteArray), .slice none 0 0, .slice none 0 0]) ?_ 0 _ rfl; (with_reducible repeat (first | refine blk_drewN ?_ _ | refine blk_drew ?_ | refine blk_alloc ?_ _)); exact b7.out)) (below_size (zW HB.out))); replace i3 := zA (Deep.S_oldT B5 (Kd.S_told (Kd.S_told (Kd.S_old (by (with_reducible repeat (first | apply Kd.S_alloc | apply Kd.S_drewN | apply Kd.S_drew)); exact (Kd.S_mono (Kd.S_far (p := ⟨a7, 4, none⟩) (Kd.S_far (p := ⟨a7, 3, none⟩) (Kd.S_far (p := ⟨a7, 2, none⟩) (Kd.S_far (p := ⟨a7, 1, none⟩) (Kd.S_far (p := ⟨a7, 0, none⟩) (Kd.S_mono i3.out (fun k_ hk => (⟨hk, hk.2⟩ : _ ∧ k_ ≠ a7))) (fun _ hk => hk.2) (.int .i64 f9)) (fun _ hk => hk.2) (.int .i64 g2)) (fun _ hk => hk.2) (.string g6)) (fun _ hk => hk.2) (.slice d5 f1.length d3)) (fun _ hk => hk.2) (.slice a6 d4.length a5)) (fun _ h_ => h_.1))) hb) (Kd.S_base g7)) (Kd.R_base f0))); replace i2 := zA (Deep.S_oldT B5 (Kd.S_told (Kd.S_told (Kd.S_old (by (with_reducible repeat (first | apply Kd.S_alloc | apply Kd.S_drewN | apply Kd.S_drew)); exact (Kd.S_mono (Kd.S_far (p := ⟨a7, 4, none⟩) (Kd.S_far (p := ⟨a7, 3, none⟩) (Kd.S_far (p := ⟨a7, 2, none⟩) (Kd.S_far (p := ⟨a7, 1, none⟩) (Kd.S_far (p := ⟨a7, 0, none⟩) (Kd.S_mono i2.out (fun k_ hk => (⟨hk, hk.2⟩ : _ ∧ k_ ≠ a7))) (fun _ hk => hk.2) (.int .i64 f9)) (fun _ hk => hk.2) (.int .i64 g2)) (fun _ hk => hk.2) (.string g6)) (fun _ hk => hk.2) (.slice d5 f1.length d3)) (fun _ hk => hk.2) (.slice a6 d4.length a5)) (fun _ h_ => h_.1))) hb) (Kd.S_base g7)) (Kd.R_base f0))); replace k1 := zA (Deep.S_oldT B5 (Kd.S_told (Kd.S_told (Kd.S_old (by (with_reducible repeat (first | apply Kd.S_alloc | apply Kd.S_drewN | apply Kd.S_drew)); exact (Kd.S_mono (Kd.S_far (p := ⟨a7, 4, none⟩) (Kd.S_far (p := ⟨a7, 3, none⟩) (Kd.S_far (p := ⟨a7, 2, none⟩) (Kd.S_far (p := ⟨a7, 1, none⟩) (Kd.S_far (p := ⟨a7, 0, none⟩) (Kd.S_mono k1.out (fun k_ hk => (⟨hk, hk.2⟩ : _ ∧ k_ ≠ a7))) (fun _ hk => hk.2) (.int .i64 f9)) (fun _ hk => hk.2) (.int .i64 g2)) (fun _ hk => hk.2) (.string g6)) (fun _ hk => hk.2) (.slice d5 f1.length d3)) (fun _ hk => hk.2) (.slice a6 d4.length a5)) (fun _ h_ => h_.1))) hb) (Kd.S_base g7)) (Kd.R_base f0))); have k8 := zA (Kd.R_lower (Kd.R_new' (Kd.R_new' (Kd.R_new' (Deep.R_newT B5 f0) (Kd.R_lt (zR (zr5 i0.out b7.out)))) (Kd.R_lt (zR (zr5 i1.out b7.out)))) (Kd.R_lt (zR (zr5 i9.out b7.out)))) (below_size (zW HB.out))); replace i0 := zA (Kd.R_elder' (zR (zr5 i0.out b7.out)) (Kd.R_base f0) hb); replace i1 := zA (Kd.R_elder' (zR (zr5 i1.out b7.out)) (Kd.R_base f0) hb); replace i9 := zA (Kd.R_elder' (zR (zr5 i9.out b7.out)) (Kd.R_base f0) hb); replace b2 := zb b2 hb; replace b3 := zb b3 hb; replace b7 := zA (blk_below (g := a7) (o := .cells #[.int .i64 f9, .int .i64 g2, .string g6, .slice d5 f1.length d3, .slice a6 d4.length a5] 29 (0, 0)) (by (with_reducible repeat (first | refine blk_drewN ?_ _ | refine blk_drew ?_ | refine blk_alloc ?_ _)); refine blk_put (cs := #[.int .i64 f9, .int .i64 g2, .string g6, .slice d5 f1.length d3, .slice none 0 0]) ?_ 4 _ rfl; (with_reducible repeat (first | refine blk_drewN ?_ _ | refine blk_drew ?_ | refine blk_alloc ?_ _)); refine blk_put (cs := #[.int .i64 f9, .int .i64 g2, .string g6, .slice none 0 0, .slice none 0 0]) ?_ 3 _ rfl; (with_reducible repeat (first | refine blk_drewN ?_ _ | refine blk_drew ?_ | refine blk_alloc ?_ _)); refine blk_put (cs := #[.int .i64 f9, .int .i64 g2, .string (⟨#[]⟩ : ByteArray), .slice none 0 0, .slice none 0 0]) ?_ 2 _ rfl; (with_reducible repeat (first | refine blk_drewN ?_ _ | refine blk_drew ?_ | refine blk_alloc ?_ _)); refine blk_put (cs := #[.int .i64 f9, .int .i64 0, .string (⟨#[]⟩ : ByteArray), .slice none 0 0, .slice none 0 0]) ?_ 1 _ rfl; (with_reducible repeat (first | refine blk_drewN ?_ _ | refine blk_drew ?_ | refine blk_alloc ?_ _)); refine blk_put (cs := #[.int .i64 0, .int .i64 0, .string (⟨#[]⟩ : ByteArray), .slice none 0 0, .slice none 0 0]) ?_ 0 _ rfl; (with_reducible repeat (first | refine blk_drewN ?_ _ | refine blk_drew ?_ | refine blk_alloc ?_ _)); exact b7.out) hb); replace HB := zh HB hb; clear B5; (try clear hb g7 f0)) | ((with_reducible refine zd 9 ?_); refine ze 9 29 #[.int .i64 0, .int .i64 0, .string (⟨#[]⟩ : ByteArray), .slice none 0 0, .slice none 0 0] ?_; intro a0 hg w39 hbox hb; replace i3 := zA (Kd.S_below (Kd.S_elderB (by (with_reducible repeat (first | apply Kd.S_alloc | apply Kd.S_drewN | apply Kd.S_drew)); exact i3.out) a0 (Nat.le_of_eq hg.symm)) hb); replace i0 := zr i0 hb; replace i2 := zA (Kd.S_below (Kd.S_elderB (by (with_reducible repeat (first | apply Kd.S_alloc | apply Kd.S_drewN | apply Kd.S_drew)); exact i2.out) a0 (Nat.le_of_eq hg.symm)) hb); replace i1 := zr i1 hb; replace k1 := zA (Kd.S_below (Kd.S_elderB (by (with_reducible repeat (first | apply Kd.S_alloc | apply Kd.S_drewN | apply Kd.S_drew)); exact k1.out) a0 (Nat.le_of_eq hg.symm)) hb); replace i9 := zr i9 hb; replace k7 := zA (Kd.S_below (Kd.S_elderB (by (with_reducible repeat (first | apply Kd.S_alloc | apply Kd.S_drewN | apply Kd.S_drew)); exact k7.out) a0 (Nat.le_of_eq hg.symm)) hb); replace k8 := zr k8 hb; have b6 := zA (hbox); have a2q := zi HB hg; have a2r := zi HB hg; replace HB := zh HB hb; have A2 := zA (zL hg (zK b2.out)); have A3 := zA (zJ hg (zK b2.out)); replace b2 := zb b2 hb; have r2 := zA (zL hg (zK b3.out)); have r3 := zA (zJ hg (zK b3.out)); replace b3 := zb b3 hb; have A4 := zA (zL hg (zK b7.out)); have A5 := zA (zJ hg (zK b7.out)); replace b7 := zb b7 hb; clear hb hbox hg; have a2s := A3.out; have a2t := A2.out; have a2v := r3.out; have a2x := r2.out; have a2y := A5.out; have a2z := A4.out; obtain ⟨r4, r5, r6, r7, r8, r9, t0, t1, t2, t3⟩ := ze5 b6.out; obtain ⟨d0, c0, a10⟩ := Kd.S_slice k7.out; subst a10; obtain ⟨a4, a3, a11⟩ := Kd.R_slice k8.out; subst a11))
     (try simp only [Act.put, zT])
     go_cut [47] (fun v47 wc => ∃ (kq : Nat) (O2 : Bool), v47 = .bool O2 ∧ Aside0 (laws_FnExactAtKey.j2 kq a1 l4 B2 O2 g9 h0 h1 g4 g5 f4 f6 f8 b4 a2 f9 g2 g6 f1 d4 e6 e7 e9 d2 b1 = some r) ∧ Aside0 (kq ≤ A8) ∧ Aside0 (Kd.S k29 29 wc w.heap.size (fun k_ => some k_ ≠ ((.slice a9 a2.length a8) : Value).ownBlock ∧ some k_ ≠ ((.slice d5 f1.length d3) : Value).ownBlock ∧ some k_ ≠ ((.slice a6 d4.length a5) : Value).ownBlock ∧ some k_ ≠ ((.slice d0 d2.length c0) : Value).ownBlock ∧ some k_ ≠ ((.slice a4 b1.length a3) : Value).ownBlock ∧ k_ ≠ b5 ∧ k_ ≠ a7 ∧ k_ ≠ a0 ∧ h6 k_ ∧ ¬ g0 k_ ∧ ¬ e8 k_) (.slice e0 b4.length d6) b4) ∧ Aside0 (Kd.R Kd.string 9 wc w.heap.size (fun k_ => some k_ ≠ ((.slice a6 d4.length a5) : Value).ownBlock ∧ some k_ ≠ ((.slice a4 b1.length a3) : Value).ownBlock ∧ h6 k_) (.slice a9 a2.length a8) a2) ∧ Aside0 (Kd.S k29 29 wc w.heap.size (fun k_ => some k_ ≠ ((.slice e0 b4.length d6) : Value).ownBlock ∧ some k_ ≠ ((.slice a9 a2.length a8) : Value).ownBlock ∧ some k_ ≠ ((.slice a6 d4.length a5) : Value).ownBlock ∧ some k_ ≠ ((.slice d0 d2.length c0) : Value).ownBlock ∧ some k_ ≠ ((.slice a4 b1.length a3) : Value).ownBlock ∧ k_ ≠ b5 ∧ k_ ≠ a7 ∧ k_ ≠ a0 ∧ g0 k_ ∧ ¬ e8 k_) (.slice d5 f1.length d3) f1) ∧ Aside0 (Kd.R Kd.string 9 wc w.heap.size (fun k_ => some k_ ≠ ((.slice a9 a2.length a8) : Value).ownBlock ∧ some k_ ≠ ((.slice a4 b1.length a3) : Value).ownBlock ∧ g0 k_) (.slice a6 d4.length a5) d4) ∧ Aside0 (Kd.S k29 29 wc w.heap.size (fun k_ => some k_ ≠ ((.slice e0 b4.length d6) : Value).ownBlock ∧ some k_ ≠ ((.slice a9 a2.length a8) : Value).ownBlock ∧ some k_ ≠ ((.slice d5 f1.length d3) : Value).ownBlock ∧ some k_ ≠ ((.slice a6 d4.length a5) : Value).ownBlock ∧ some k_ ≠ ((.slice a4 b1.length a3) : Value).ownBlock ∧ k_ ≠ b5 ∧ k_ ≠ a7 ∧ k_ ≠ a0 ∧ e8 k_) (.slice d0 d2.length c0) d2) ∧ Aside0 (Kd.R Kd.string 9 wc w.heap.size (fun k_ => some k_ ≠ ((.slice a9 a2.length a8) : Value).ownBlock ∧ some k_ ≠ ((.slice a6 d4.length a5) : Value).ownBlock ∧ e8 k_) (.slice a4 b1.length a3) b1) ∧ Aside0 (wc.heap[i8]? = some (.cells #[.int .i64 g9, .int .i64 h0, .string h1, (.slice i4 g4.length i5), (.slice i6 g5.length i7)] 25 (0, 0))) ∧ Aside0 (wc.heap[b5]? = some (.cells #[.int .i64 f4, .int .i64 f6, .string f8, (.slice e0 b4.length d6), (.slice a9 a2.length a8)] 29 (0, 0))) ∧ Aside0 (wc.heap[a7]? = some (.cells #[.int .i64 f9, .int .i64 g2, .string g6, (.slice d5 f1.length d3), (.slice a6 d4.length a5)] 29 (0, 0))) ∧ Aside0 (wc.heap[a0]? = some (.cells #[.int .i64 e6, .int .i64 e7, .string e9, (.slice d0 d2.length c0), (.slice a4 b1.length a3)] 29 (0, 0))) ∧ Aside0 (Below w.heap.size w wc))
     case first =>
      have H := N8.out; clear N8; replace H := Option.bind_eq_some_iff.mp H; obtain ⟨a30, T5, H⟩ := H
      try dsimp only at H
      have T6 := zA T5; clear T5; replace H := zB0 H
      rcases H with ⟨rfl, H⟩ | ⟨rfl, H⟩
      ·have H' := zA H; clear H; have a31 := A3.out; have a32 := A2.out; have a33 := r3.out; have a34 := r2.out; have a35 := A5.out; have a36 := A4.out; obtain ⟨t4, t5, t6, t7, t8, t9, v0, v1, v2, v3⟩ := ze5 b6.out; have a37 := z9.out; have a38 := z8.out; have a39 := A0.out; have a3a := A1.out; obtain ⟨v4, v5, v6, v7, v8, v9, x0, x1, x2, x3⟩ := ze5 b3.out
       go_wp2_with (first | ((with_reducible refine zq 10 ?_); refine zg (some 41) Try.func10 #[.agg #[.int .i64 e6, .int .i64 e7, .string e9, .slice d0 d2.length c0, .slice a4 b1.length a3], .agg #[.int .i64 f4, .int .i64 f6, .string f8, .slice e0 b4.length d6, .slice a9 a2.length a8]] ?_; (with_reducible refine (laws_eqVal.calls A8 e6 e7 e9 _ _ d2 _ _ b1 f4 f6 f8 _ _ b4 _ _ a2 true _ ?s1 ?s2 ?s3 ?s4 ?s5 ?s6 ?s7 ?s8 T6.out).mono ?_); (case s1 => refine (Kd.S_reads' (e := 29) (base := w.heap.size) (ok := fun k_ => ((((((((((some k_ ≠ (.slice a4 b1.length a3 : Value).ownBlock ∧ e8 k_) ∧ some k_ ≠ (.slice B3 z7.length B4 : Value).ownBlock) ∧ some k_ ≠ (.slice l5 k6.length l6 : Value).ownBlock) ∧ some k_ ≠ (.slice e0 b4.length d6 : Value).ownBlock) ∧ some k_ ≠ (.slice a9 a2.length a8 : Value).ownBlock) ∧ some k_ ≠ (.slice d5 f1.length d3 : Value).ownBlock) ∧ some k_ ≠ (.slice a6 d4.length a5 : Value).ownBlock) ∧ k_ ≠ b5) ∧ k_ ≠ a7) ∧ k_ ≠ a0)) (n := d2.length) (c := c0) ?_).2.2; exact (by (with_reducible repeat (first | apply Kd.S_alloc | apply Kd.S_drewN | apply Kd.S_drew)); exact (Kd.S_mono (Kd.S_far (p := ⟨a0, 4, none⟩) (Kd.S_far (p := ⟨a0, 3, none⟩) (Kd.S_far (p := ⟨a0, 2, none⟩) (Kd.S_far (p := ⟨a0, 1, none⟩) (Kd.S_far (p := ⟨a0, 0, none⟩) (Kd.S_mono k7.out (fun k_ hk => (⟨hk, hk.2⟩ : _ ∧ k_ ≠ a0))) (fun _ hk => hk.2) (.int .i64 e6)) (fun _ hk => hk.2) (.int .i64 e7)) (fun _ hk => hk.2) (.string e9)) (fun _ hk => hk.2) (.slice d0 d2.length c0)) (fun _ hk => hk.2) (.slice a4 b1.length a3)) (fun _ h_ => h_.1)))); (case s2 => exact (Kd.S_reads' k7.out).2.1); (case s3 => refine (Kd.R_reads' (e := 9) (base := w.heap.size) (ok := fun k_ => ((((True ∧ e8 k_) ∧ some k_ ≠ (.slice l5 k6.length l6 : Value).ownBlock) ∧ some k_ ≠ (.slice a9 a2.length a8 : Value).ownBlock) ∧ some k_ ≠ (.slice a6 d4.length a5 : Value).ownBlock)) (n := b1.length) (c := a3) ?_).2.2; exact (zR (zr5 k8.out b6.out))); (case s4 => exact (Kd.R_reads' k8.out).2.1); (case s5 => refine (Kd.S_reads' (e := 29) (base := w.heap.size) (ok := fun k_ => ((((((((((((some k_ ≠ (.slice a9 a2.length a8 : Value).ownBlock ∧ h6 k_) ∧ some k_ ≠ (.slice B3 z7.length B4 : Value).ownBlock) ∧ some k_ ≠ (.slice l5 k6.length l6 : Value).ownBlock) ∧ k_ ≠ b5) ∧ some k_ ≠ (.slice d5 f1.length d3 : Value).ownBlock) ∧ some k_ ≠ (.slice a6 d4.length a5 : Value).ownBlock) ∧ ¬ g0 k_) ∧ k_ ≠ a7) ∧ some k_ ≠ (.slice d0 d2.length c0 : Value).ownBlock) ∧ some k_ ≠ (.slice a4 b1.length a3 : Value).ownBlock) ∧ ¬ e8 k_) ∧ k_ ≠ a0)) (n := b4.length) (c := d6) ?_).2.2; exact (by (with_reducible repeat (first | apply Kd.S_alloc | apply Kd.S_drewN | apply Kd.S_drew)); exact (Kd.S_mono (Kd.S_far (p := ⟨a0, 4, none⟩) (Kd.S_far (p := ⟨a0, 3, none⟩) (Kd.S_far (p := ⟨a0, 2, none⟩) (Kd.S_far (p := ⟨a0, 1, none⟩) (Kd.S_far (p := ⟨a0, 0, none⟩) (Kd.S_mono i2.out (fun k_ hk => (⟨hk, hk.2⟩ : _ ∧ k_ ≠ a0))) (fun _ hk => hk.2) (.int .i64 e6)) (fun _ hk => hk.2) (.int .i64 e7)) (fun _ hk => hk.2) (.string e9)) (fun _ hk => hk.2) (.slice d0 d2.length c0)) (fun _ hk => hk.2) (.slice a4 b1.length a3)) (fun _ h_ => h_.1)))); (case s6 => exact (Kd.S_reads' i2.out).2.1); (case s7 => refine (Kd.R_reads' (e := 9) (base := w.heap.size) (ok := fun k_ => ((((True ∧ h6 k_) ∧ some k_ ≠ (.slice l5 k6.length l6 : Value).ownBlock) ∧ some k_ ≠ (.slice a6 d4.length a5 : Value).ownBlock) ∧ some k_ ≠ (.slice a4 b1.length a3 : Value).ownBlock)) (n := a2.length) (c := a8) ?_).2.2; exact (zR (zr5 i1.out b6.out))); (case s8 => exact (Kd.R_reads' i1.out).2.1); rintro e w55 ⟨rfl, hb⟩; refine ⟨_, rfl, ?_⟩; replace i3 := zA (Kd.S_below (by (with_reducible repeat (first | apply Kd.S_alloc | apply Kd.S_drewN | apply Kd.S_drew)); exact (Kd.S_mono (Kd.S_far (p := ⟨a0, 4, none⟩) (Kd.S_far (p := ⟨a0, 3, none⟩) (Kd.S_far (p := ⟨a0, 2, none⟩) (Kd.S_far (p := ⟨a0, 1, none⟩) (Kd.S_far (p := ⟨a0, 0, none⟩) (Kd.S_mono i3.out (fun k_ hk => (⟨hk, hk.2⟩ : _ ∧ k_ ≠ a0))) (fun _ hk => hk.2) (.int .i64 e6)) (fun _ hk => hk.2) (.int .i64 e7)) (fun _ hk => hk.2) (.string e9)) (fun _ hk => hk.2) (.slice d0 d2.length c0)) (fun _ hk => hk.2) (.slice a4 b1.length a3)) (fun _ h_ => h_.1))) hb); replace i0 := zA (Kd.R_below (zR (zr5 i0.out b6.out)) hb); replace i2 := zA (Kd.S_below (by (with_reducible repeat (first | apply Kd.S_alloc | apply Kd.S_drewN | apply Kd.S_drew)); exact (Kd.S_mono (Kd.S_far (p := ⟨a0, 4, none⟩) (Kd.S_far (p := ⟨a0, 3, none⟩) (Kd.S_far (p := ⟨a0, 2, none⟩) (Kd.S_far (p := ⟨a0, 1, none⟩) (Kd.S_far (p := ⟨a0, 0, none⟩) (Kd.S_mono i2.out (fun k_ hk => (⟨hk, hk.2⟩ : _ ∧ k_ ≠ a0))) (fun _ hk => hk.2) (.int .i64 e6)) (fun _ hk => hk.2) (.int .i64 e7)) (fun _ hk => hk.2) (.string e9)) (fun _ hk => hk.2) (.slice d0 d2.length c0)) (fun _ hk => hk.2) (.slice a4 b1.length a3)) (fun _ h_ => h_.1))) hb); replace i1 := zA (Kd.R_below (zR (zr5 i1.out b6.out)) hb); replace k1 := zA (Kd.S_below (by (with_reducible repeat (first | apply Kd.S_alloc | apply Kd.S_drewN | apply Kd.S_drew)); exact (Kd.S_mono (Kd.S_far (p := ⟨a0, 4, none⟩) (Kd.S_far (p := ⟨a0, 3, none⟩) (Kd.S_far (p := ⟨a0, 2, none⟩) (Kd.S_far (p := ⟨a0, 1, none⟩) (Kd.S_far (p := ⟨a0, 0, none⟩) (Kd.S_mono k1.out (fun k_ hk => (⟨hk, hk.2⟩ : _ ∧ k_ ≠ a0))) (fun _ hk => hk.2) (.int .i64 e6)) (fun _ hk => hk.2) (.int .i64 e7)) (fun _ hk => hk.2) (.string e9)) (fun _ hk => hk.2) (.slice d0 d2.length c0)) (fun _ hk => hk.2) (.slice a4 b1.length a3)) (fun _ h_ => h_.1))) hb); replace i9 := zA (Kd.R_below (zR (zr5 i9.out b6.out)) hb); replace k7 := zA (Kd.S_below (by (with_reducible repeat (first | apply Kd.S_alloc | apply Kd.S_drewN | apply Kd.S_drew)); exact (Kd.S_mono (Kd.S_far (p := ⟨a0, 4, none⟩) (Kd.S_far (p := ⟨a0, 3, none⟩) (Kd.S_far (p := ⟨a0, 2, none⟩) (Kd.S_far (p := ⟨a0, 1, none⟩) (Kd.S_far (p := ⟨a0, 0, none⟩) (Kd.S_mono k7.out (fun k_ hk => (⟨hk, hk.2⟩ : _ ∧ k_ ≠ a0))) (fun _ hk => hk.2) (.int .i64 e6)) (fun _ hk => hk.2) (.int .i64 e7)) (fun _ hk => hk.2) (.string e9)) (fun _ hk => hk.2) (.slice d0 d2.length c0)) (fun _ hk => hk.2) (.slice a4 b1.length a3)) (fun _ h_ => h_.1))) hb); replace k8 := zA (Kd.R_below (zR (zr5 k8.out b6.out)) hb); replace b2 := zb b2 hb; replace b3 := zb b3 hb; replace b7 := zb b7 hb; replace b6 := zA (blk_below (g := a0) (o := .cells #[.int .i64 e6, .int .i64 e7, .string e9, .slice d0 d2.length c0, .slice a4 b1.length a3] 29 (0, 0)) (by (with_reducible repeat (first | refine blk_drewN ?_ _ | refine blk_drew ?_ | refine blk_alloc ?_ _)); refine blk_put (cs := #[.int .i64 e6, .int .i64 e7, .string e9, .slice d0 d2.length c0, .slice none 0 0]) ?_ 4 _ rfl; (with_reducible repeat (first | refine blk_drewN ?_ _ | refine blk_drew ?_ | refine blk_alloc ?_ _)); refine blk_put (cs := #[.int .i64 e6, .int .i64 e7, .string e9, .slice none 0 0, .slice none 0 0]) ?_ 3 _ rfl; (with_reducible repeat (first | refine blk_drewN ?_ _ | refine blk_drew ?_ | refine blk_alloc ?_ _)); refine blk_put (cs := #[.int .i64 e6, .int .i64 e7, .string (⟨#[]⟩ : ByteArray), .slice none 0 0, .slice none 0 0]) ?_ 2 _ rfl; (with_reducible repeat (first | refine blk_drewN ?_ _ | refine blk_drew ?_ | refine blk_alloc ?_ _)); refine blk_put (cs := #[.int .i64 e6, .int .i64 0, .string (⟨#[]⟩ : ByteArray), .slice none 0 0, .slice none 0 0]) ?_ 1 _ rfl; (with_reducible repeat (first | refine blk_drewN ?_ _ | refine blk_drew ?_ | refine blk_alloc ?_ _)); refine blk_put (cs := #[.int .i64 0, .int .i64 0, .string (⟨#[]⟩ : ByteArray), .slice none 0 0, .slice none 0 0]) ?_ 0 _ rfl; (with_reducible repeat (first | refine blk_drewN ?_ _ | refine blk_drew ?_ | refine blk_alloc ?_ _)); exact b6.out) hb); replace HB := zh HB hb; (try clear hb)))
       go_meet
       case rel => exact ⟨_, ((B2 != l4)), zS, (by first | exact H' | (subst_vars; exact H')), ⟨by have := k4.out; have := k5.out; first | omega | exact Nat.le_refl _⟩, ⟨by (with_reducible repeat (first | apply Kd.S_alloc | apply Kd.S_drewN | apply Kd.S_drew)); exact Kd.S_mono i2.out (fun _ hk => ⟨hk.1.1.1.1.1.1.1.1.1.1.1.1, ⟨hk.1.1.1.1.1.1.1.2, ⟨hk.1.1.1.1.1.1.2, ⟨hk.1.1.1.2, ⟨hk.1.1.2, ⟨hk.1.1.1.1.1.1.1.1.2, ⟨hk.1.1.1.1.2, ⟨hk.2, ⟨hk.1.1.1.1.1.1.1.1.1.1.1.2, ⟨hk.1.1.1.1.1.2, hk.1.2⟩⟩⟩⟩⟩⟩⟩⟩⟩⟩)⟩, ⟨zR (Kd.R_mono i1.out (fun _ hk => ⟨hk.1.2, ⟨hk.2, hk.1.1.1.2⟩⟩))⟩, ⟨by (with_reducible repeat (first | apply Kd.S_alloc | apply Kd.S_drewN | apply Kd.S_drew)); exact Kd.S_mono k1.out (fun _ hk => ⟨hk.1.1.1.1.1.1.1.2, ⟨hk.1.1.1.1.1.1.2, ⟨hk.1.1.1.1.1.1.1.1.1.1.1, ⟨hk.1.1.1.2, ⟨hk.1.1.2, ⟨hk.1.1.1.1.1.2, ⟨hk.1.1.1.1.2, ⟨hk.2, ⟨hk.1.1.1.1.1.1.1.1.1.1.2, hk.1.2⟩⟩⟩⟩⟩⟩⟩⟩⟩)⟩, ⟨zR (Kd.R_mono i9.out (fun _ hk => ⟨hk.1.2, ⟨hk.2, hk.1.1.1.2⟩⟩))⟩, ⟨by (with_reducible repeat (first | apply Kd.S_alloc | apply Kd.S_drewN | apply Kd.S_drew)); exact Kd.S_mono k7.out (fun _ hk => ⟨hk.1.1.1.1.1.1.2, ⟨hk.1.1.1.1.1.2, ⟨hk.1.1.1.1.2, ⟨hk.1.1.1.2, ⟨hk.1.1.1.1.1.1.1.1.1.1, ⟨hk.1.1.2, ⟨hk.1.2, ⟨hk.2, hk.1.1.1.1.1.1.1.1.1.2⟩⟩⟩⟩⟩⟩⟩⟩)⟩, ⟨zR (Kd.R_mono k8.out (fun _ hk => ⟨hk.1.2, ⟨hk.2, hk.1.1.1.2⟩⟩))⟩, ⟨zK b2.out⟩, ⟨zK b3.out⟩, ⟨zK b7.out⟩, ⟨zK b6.out⟩, ⟨zW HB.out⟩⟩
      have H' := zA H; clear H; have a3c := A3.out; have a3d := A2.out; have a3e := r3.out; have a3f := r2.out; have a3g := A5.out; have a3h := A4.out; obtain ⟨x4, x5, x6, x7, x8, x9, y0, y1, y2, y3⟩ := ze5 b6.out; have a3i := z9.out; have a3j := z8.out; have a3k := A0.out; have a3l := A1.out; obtain ⟨y4, y5, y6, y7, y8, y9, z0, z1, z2, z3⟩ := ze5 b3.out
      go_wp2_with (first | ((with_reducible refine zq 10 ?_); refine zg (some 41) Try.func10 #[.agg #[.int .i64 e6, .int .i64 e7, .string e9, .slice d0 d2.length c0, .slice a4 b1.length a3], .agg #[.int .i64 f4, .int .i64 f6, .string f8, .slice e0 b4.length d6, .slice a9 a2.length a8]] ?_; (with_reducible refine (laws_eqVal.calls A8 e6 e7 e9 _ _ d2 _ _ b1 f4 f6 f8 _ _ b4 _ _ a2 false _ ?s1 ?s2 ?s3 ?s4 ?s5 ?s6 ?s7 ?s8 T6.out).mono ?_); (case s1 => refine (Kd.S_reads' (e := 29) (base := w.heap.size) (ok := fun k_ => ((((((((((some k_ ≠ (.slice a4 b1.length a3 : Value).ownBlock ∧ e8 k_) ∧ some k_ ≠ (.slice B3 z7.length B4 : Value).ownBlock) ∧ some k_ ≠ (.slice l5 k6.length l6 : Value).ownBlock) ∧ some k_ ≠ (.slice e0 b4.length d6 : Value).ownBlock) ∧ some k_ ≠ (.slice a9 a2.length a8 : Value).ownBlock) ∧ some k_ ≠ (.slice d5 f1.length d3 : Value).ownBlock) ∧ some k_ ≠ (.slice a6 d4.length a5 : Value).ownBlock) ∧ k_ ≠ b5) ∧ k_ ≠ a7) ∧ k_ ≠ a0)) (n := d2.length) (c := c0) ?_).2.2; exact (by (with_reducible repeat (first | apply Kd.S_alloc | apply Kd.S_drewN | apply Kd.S_drew)); exact (Kd.S_mono (Kd.S_far (p := ⟨a0, 4, none⟩) (Kd.S_far (p := ⟨a0, 3, none⟩) (Kd.S_far (p := ⟨a0, 2, none⟩) (Kd.S_far (p := ⟨a0, 1, none⟩) (Kd.S_far (p := ⟨a0, 0, none⟩) (Kd.S_mono k7.out (fun k_ hk => (⟨hk, hk.2⟩ : _ ∧ k_ ≠ a0))) (fun _ hk => hk.2) (.int .i64 e6)) (fun _ hk => hk.2) (.int .i64 e7)) (fun _ hk => hk.2) (.string e9)) (fun _ hk => hk.2) (.slice d0 d2.length c0)) (fun _ hk => hk.2) (.slice a4 b1.length a3)) (fun _ h_ => h_.1)))); (case s2 => exact (Kd.S_reads' k7.out).2.1); (case s3 => refine (Kd.R_reads' (e := 9) (base := w.heap.size) (ok := fun k_ => ((((True ∧ e8 k_) ∧ some k_ ≠ (.slice l5 k6.length l6 : Value).ownBlock) ∧ some k_ ≠ (.slice a9 a2.length a8 : Value).ownBlock) ∧ some k_ ≠ (.slice a6 d4.length a5 : Value).ownBlock)) (n := b1.length) (c := a3) ?_).2.2; exact (zR (zr5 k8.out b6.out))); (case s4 => exact (Kd.R_reads' k8.out).2.1); (case s5 => refine (Kd.S_reads' (e := 29) (base := w.heap.size) (ok := fun k_ => ((((((((((((some k_ ≠ (.slice a9 a2.length a8 : Value).ownBlock ∧ h6 k_) ∧ some k_ ≠ (.slice B3 z7.length B4 : Value).ownBlock) ∧ some k_ ≠ (.slice l5 k6.length l6 : Value).ownBlock) ∧ k_ ≠ b5) ∧ some k_ ≠ (.slice d5 f1.length d3 : Value).ownBlock) ∧ some k_ ≠ (.slice a6 d4.length a5 : Value).ownBlock) ∧ ¬ g0 k_) ∧ k_ ≠ a7) ∧ some k_ ≠ (.slice d0 d2.length c0 : Value).ownBlock) ∧ some k_ ≠ (.slice a4 b1.length a3 : Value).ownBlock) ∧ ¬ e8 k_) ∧ k_ ≠ a0)) (n := b4.length) (c := d6) ?_).2.2; exact (by (with_reducible repeat (first | apply Kd.S_alloc | apply Kd.S_drewN | apply Kd.S_drew)); exact (Kd.S_mono (Kd.S_far (p := ⟨a0, 4, none⟩) (Kd.S_far (p := ⟨a0, 3, none⟩) (Kd.S_far (p := ⟨a0, 2, none⟩) (Kd.S_far (p := ⟨a0, 1, none⟩) (Kd.S_far (p := ⟨a0, 0, none⟩) (Kd.S_mono i2.out (fun k_ hk => (⟨hk, hk.2⟩ : _ ∧ k_ ≠ a0))) (fun _ hk => hk.2) (.int .i64 e6)) (fun _ hk => hk.2) (.int .i64 e7)) (fun _ hk => hk.2) (.string e9)) (fun _ hk => hk.2) (.slice d0 d2.length c0)) (fun _ hk => hk.2) (.slice a4 b1.length a3)) (fun _ h_ => h_.1)))); (case s6 => exact (Kd.S_reads' i2.out).2.1); (case s7 => refine (Kd.R_reads' (e := 9) (base := w.heap.size) (ok := fun k_ => ((((True ∧ h6 k_) ∧ some k_ ≠ (.slice l5 k6.length l6 : Value).ownBlock) ∧ some k_ ≠ (.slice a6 d4.length a5 : Value).ownBlock) ∧ some k_ ≠ (.slice a4 b1.length a3 : Value).ownBlock)) (n := a2.length) (c := a8) ?_).2.2; exact (zR (zr5 i1.out b6.out))); (case s8 => exact (Kd.R_reads' i1.out).2.1); rintro e w63 ⟨rfl, hb⟩; refine ⟨_, rfl, ?_⟩; replace i3 := zA (Kd.S_below (by (with_reducible repeat (first | apply Kd.S_alloc | apply Kd.S_drewN | apply Kd.S_drew)); exact (Kd.S_mono (Kd.S_far (p := ⟨a0, 4, none⟩) (Kd.S_far (p := ⟨a0, 3, none⟩) (Kd.S_far (p := ⟨a0, 2, none⟩) (Kd.S_far (p := ⟨a0, 1, none⟩) (Kd.S_far (p := ⟨a0, 0, none⟩) (Kd.S_mono i3.out (fun k_ hk => (⟨hk, hk.2⟩ : _ ∧ k_ ≠ a0))) (fun _ hk => hk.2) (.int .i64 e6)) (fun _ hk => hk.2) (.int .i64 e7)) (fun _ hk => hk.2) (.string e9)) (fun _ hk => hk.2) (.slice d0 d2.length c0)) (fun _ hk => hk.2) (.slice a4 b1.length a3)) (fun _ h_ => h_.1))) hb); replace i0 := zA (Kd.R_below (zR (zr5 i0.out b6.out)) hb); replace i2 := zA (Kd.S_below (by (with_reducible repeat (first | apply Kd.S_alloc | apply Kd.S_drewN | apply Kd.S_drew)); exact (Kd.S_mono (Kd.S_far (p := ⟨a0, 4, none⟩) (Kd.S_far (p := ⟨a0, 3, none⟩) (Kd.S_far (p := ⟨a0, 2, none⟩) (Kd.S_far (p := ⟨a0, 1, none⟩) (Kd.S_far (p := ⟨a0, 0, none⟩) (Kd.S_mono i2.out (fun k_ hk => (⟨hk, hk.2⟩ : _ ∧ k_ ≠ a0))) (fun _ hk => hk.2) (.int .i64 e6)) (fun _ hk => hk.2) (.int .i64 e7)) (fun _ hk => hk.2) (.string e9)) (fun _ hk => hk.2) (.slice d0 d2.length c0)) (fun _ hk => hk.2) (.slice a4 b1.length a3)) (fun _ h_ => h_.1))) hb); replace i1 := zA (Kd.R_below (zR (zr5 i1.out b6.out)) hb); replace k1 := zA (Kd.S_below (by (with_reducible repeat (first | apply Kd.S_alloc | apply Kd.S_drewN | apply Kd.S_drew)); exact (Kd.S_mono (Kd.S_far (p := ⟨a0, 4, none⟩) (Kd.S_far (p := ⟨a0, 3, none⟩) (Kd.S_far (p := ⟨a0, 2, none⟩) (Kd.S_far (p := ⟨a0, 1, none⟩) (Kd.S_far (p := ⟨a0, 0, none⟩) (Kd.S_mono k1.out (fun k_ hk => (⟨hk, hk.2⟩ : _ ∧ k_ ≠ a0))) (fun _ hk => hk.2) (.int .i64 e6)) (fun _ hk => hk.2) (.int .i64 e7)) (fun _ hk => hk.2) (.string e9)) (fun _ hk => hk.2) (.slice d0 d2.length c0)) (fun _ hk => hk.2) (.slice a4 b1.length a3)) (fun _ h_ => h_.1))) hb); replace i9 := zA (Kd.R_below (zR (zr5 i9.out b6.out)) hb); replace k7 := zA (Kd.S_below (by (with_reducible repeat (first | apply Kd.S_alloc | apply Kd.S_drewN | apply Kd.S_drew)); exact (Kd.S_mono (Kd.S_far (p := ⟨a0, 4, none⟩) (Kd.S_far (p := ⟨a0, 3, none⟩) (Kd.S_far (p := ⟨a0, 2, none⟩) (Kd.S_far (p := ⟨a0, 1, none⟩) (Kd.S_far (p := ⟨a0, 0, none⟩) (Kd.S_mono k7.out (fun k_ hk => (⟨hk, hk.2⟩ : _ ∧ k_ ≠ a0))) (fun _ hk => hk.2) (.int .i64 e6)) (fun _ hk => hk.2) (.int .i64 e7)) (fun _ hk => hk.2) (.string e9)) (fun _ hk => hk.2) (.slice d0 d2.length c0)) (fun _ hk => hk.2) (.slice a4 b1.length a3)) (fun _ h_ => h_.1))) hb); replace k8 := zA (Kd.R_below (zR (zr5 k8.out b6.out)) hb); replace b2 := zb b2 hb; replace b3 := zb b3 hb; replace b7 := zb b7 hb; replace b6 := zA (blk_below (g := a0) (o := .cells #[.int .i64 e6, .int .i64 e7, .string e9, .slice d0 d2.length c0, .slice a4 b1.length a3] 29 (0, 0)) (by (with_reducible repeat (first | refine blk_drewN ?_ _ | refine blk_drew ?_ | refine blk_alloc ?_ _)); refine blk_put (cs := #[.int .i64 e6, .int .i64 e7, .string e9, .slice d0 d2.length c0, .slice none 0 0]) ?_ 4 _ rfl; (with_reducible repeat (first | refine blk_drewN ?_ _ | refine blk_drew ?_ | refine blk_alloc ?_ _)); refine blk_put (cs := #[.int .i64 e6, .int .i64 e7, .string e9, .slice none 0 0, .slice none 0 0]) ?_ 3 _ rfl; (with_reducible repeat (first | refine blk_drewN ?_ _ | refine blk_drew ?_ | refine blk_alloc ?_ _)); refine blk_put (cs := #[.int .i64 e6, .int .i64 e7, .string (⟨#[]⟩ : ByteArray), .slice none 0 0, .slice none 0 0]) ?_ 2 _ rfl; (with_reducible repeat (first | refine blk_drewN ?_ _ | refine blk_drew ?_ | refine blk_alloc ?_ _)); refine blk_put (cs := #[.int .i64 e6, .int .i64 0, .string (⟨#[]⟩ : ByteArray), .slice none 0 0, .slice none 0 0]) ?_ 1 _ rfl; (with_reducible repeat (first | refine blk_drewN ?_ _ | refine blk_drew ?_ | refine blk_alloc ?_ _)); refine blk_put (cs := #[.int .i64 0, .int .i64 0, .string (⟨#[]⟩ : ByteArray), .slice none 0 0, .slice none 0 0]) ?_ 0 _ rfl; (with_reducible repeat (first | refine blk_drewN ?_ _ | refine blk_drew ?_ | refine blk_alloc ?_ _)); exact b6.out) hb); replace HB := zh HB hb; (try clear hb)))
      go_meet
      case rel => exact ⟨_, (true), zS, (by first | exact H' | (subst_vars; exact H')), ⟨by have := k4.out; have := k5.out; first | omega | exact Nat.le_refl _⟩, ⟨by (with_reducible repeat (first | apply Kd.S_alloc | apply Kd.S_drewN | apply Kd.S_drew)); exact Kd.S_mono i2.out (fun _ hk => ⟨hk.1.1.1.1.1.1.1.1.1.1.1.1, ⟨hk.1.1.1.1.1.1.1.2, ⟨hk.1.1.1.1.1.1.2, ⟨hk.1.1.1.2, ⟨hk.1.1.2, ⟨hk.1.1.1.1.1.1.1.1.2, ⟨hk.1.1.1.1.2, ⟨hk.2, ⟨hk.1.1.1.1.1.1.1.1.1.1.1.2, ⟨hk.1.1.1.1.1.2, hk.1.2⟩⟩⟩⟩⟩⟩⟩⟩⟩⟩)⟩, ⟨zR (Kd.R_mono i1.out (fun _ hk => ⟨hk.1.2, ⟨hk.2, hk.1.1.1.2⟩⟩))⟩, ⟨by (with_reducible repeat (first | apply Kd.S_alloc | apply Kd.S_drewN | apply Kd.S_drew)); exact Kd.S_mono k1.out (fun _ hk => ⟨hk.1.1.1.1.1.1.1.2, ⟨hk.1.1.1.1.1.1.2, ⟨hk.1.1.1.1.1.1.1.1.1.1.1, ⟨hk.1.1.1.2, ⟨hk.1.1.2, ⟨hk.1.1.1.1.1.2, ⟨hk.1.1.1.1.2, ⟨hk.2, ⟨hk.1.1.1.1.1.1.1.1.1.1.2, hk.1.2⟩⟩⟩⟩⟩⟩⟩⟩⟩)⟩, ⟨zR (Kd.R_mono i9.out (fun _ hk => ⟨hk.1.2, ⟨hk.2, hk.1.1.1.2⟩⟩))⟩, ⟨by (with_reducible repeat (first | apply Kd.S_alloc | apply Kd.S_drewN | apply Kd.S_drew)); exact Kd.S_mono k7.out (fun _ hk => ⟨hk.1.1.1.1.1.1.2, ⟨hk.1.1.1.1.1.2, ⟨hk.1.1.1.1.2, ⟨hk.1.1.1.2, ⟨hk.1.1.1.1.1.1.1.1.1.1, ⟨hk.1.1.2, ⟨hk.1.2, ⟨hk.2, hk.1.1.1.1.1.1.1.1.1.2⟩⟩⟩⟩⟩⟩⟩⟩)⟩, ⟨zR (Kd.R_mono k8.out (fun _ hk => ⟨hk.1.2, ⟨hk.2, hk.1.1.1.2⟩⟩))⟩, ⟨zK b2.out⟩, ⟨zK b3.out⟩, ⟨zK b7.out⟩, ⟨zK b6.out⟩, ⟨zW HB.out⟩⟩
     case rest =>
      clear N8
      try clear c1
      try clear c2
      try clear p2
      try clear c3
      try clear c4
      try clear c5
      try clear k0
      try clear l2
      try clear c6
      try clear c7
      try clear c8
      try clear c9
      try clear c10
      try clear k3
      try clear c24
      try clear c32
      try clear c33
      try clear c40
      try clear c41
      try clear c42
      try clear c47
      try clear c48
      try clear c49
      try clear c50
      try clear c52
      try clear c53
      try clear c56
      try clear c57
      try clear c58
      try clear c60
      try clear c61
      try clear n1 n2 n3 n4 n5 n6 n7 n8 n9 o0
      try clear o1 o2 o3 o4 o5 o6 o7 o8 o9 p0
      try clear p1 p3 p4 p5 p6 p7 p8 p9 q0 q1
      try clear q2 q3 q4 q5 q6 q7 q8 q9 r0 r1
      try clear r4 r5 r6 r7 r8 r9 t0 t1 t2 t3
      try clear t4 t5 t6 t7 t8 t9 v0 v1 v2 v3
      try clear v4 v5 v6 v7 v8 v9 x0 x1 x2 x3
      try clear x4 x5 x6 x7 x8 x9 y0 y1 y2 y3
      try clear y4 y5 y6 y7 y8 y9 z0 z1 z2 z3
      try clear m0 m1 m2 m3 m4 m5 m6 m7 m8 m9
      try clear p2
      obtain ⟨kq, O2, rfl, HA, l7, e1, d7, e5, d8, d9, d1, b2, b3, b7, b6, HB⟩ := hcut
      cases kq with
      | zero => exact absurd HA.out (by simp [laws_FnExactAtKey.j2])
      | succ a13 =>
       have H := HA.out; clear HA; simp only [laws_FnExactAtKey.j2] at H; have O3 := zA H; clear H
       go_upto_if 47 with (fail)
       go_cut [] (fun wc => ∃ (kq : Nat), Aside0 (laws_FnExactAtKey.j3 kq a1 l4 B2 g9 h0 h1 g4 g5 f4 f6 f8 b4 a2 f9 g2 g6 f1 d4 e6 e7 e9 d2 b1 = some r) ∧ Aside0 (kq ≤ a13) ∧ Aside0 (Kd.S k29 29 wc w.heap.size (fun k_ => some k_ ≠ ((.slice a9 a2.length a8) : Value).ownBlock ∧ some k_ ≠ ((.slice d5 f1.length d3) : Value).ownBlock ∧ some k_ ≠ ((.slice a6 d4.length a5) : Value).ownBlock ∧ some k_ ≠ ((.slice d0 d2.length c0) : Value).ownBlock ∧ some k_ ≠ ((.slice a4 b1.length a3) : Value).ownBlock ∧ k_ ≠ b5 ∧ k_ ≠ a7 ∧ k_ ≠ a0 ∧ h6 k_ ∧ ¬ g0 k_ ∧ ¬ e8 k_) (.slice e0 b4.length d6) b4) ∧ Aside0 (Kd.R Kd.string 9 wc w.heap.size (fun k_ => some k_ ≠ ((.slice a6 d4.length a5) : Value).ownBlock ∧ some k_ ≠ ((.slice a4 b1.length a3) : Value).ownBlock ∧ h6 k_) (.slice a9 a2.length a8) a2) ∧ Aside0 (Kd.S k29 29 wc w.heap.size (fun k_ => some k_ ≠ ((.slice e0 b4.length d6) : Value).ownBlock ∧ some k_ ≠ ((.slice a9 a2.length a8) : Value).ownBlock ∧ some k_ ≠ ((.slice a6 d4.length a5) : Value).ownBlock ∧ some k_ ≠ ((.slice d0 d2.length c0) : Value).ownBlock ∧ some k_ ≠ ((.slice a4 b1.length a3) : Value).ownBlock ∧ k_ ≠ b5 ∧ k_ ≠ a7 ∧ k_ ≠ a0 ∧ g0 k_ ∧ ¬ e8 k_) (.slice d5 f1.length d3) f1) ∧ Aside0 (Kd.R Kd.string 9 wc w.heap.size (fun k_ => some k_ ≠ ((.slice a9 a2.length a8) : Value).ownBlock ∧ some k_ ≠ ((.slice a4 b1.length a3) : Value).ownBlock ∧ g0 k_) (.slice a6 d4.length a5) d4) ∧ Aside0 (Kd.S k29 29 wc w.heap.size (fun k_ => some k_ ≠ ((.slice e0 b4.length d6) : Value).ownBlock ∧ some k_ ≠ ((.slice a9 a2.length a8) : Value).ownBlock ∧ some k_ ≠ ((.slice d5 f1.length d3) : Value).ownBlock ∧ some k_ ≠ ((.slice a6 d4.length a5) : Value).ownBlock ∧ some k_ ≠ ((.slice a4 b1.length a3) : Value).ownBlock ∧ k_ ≠ b5 ∧ k_ ≠ a7 ∧ k_ ≠ a0 ∧ e8 k_) (.slice d0 d2.length c0) d2) ∧ Aside0 (Kd.R Kd.string 9 wc w.heap.size (fun k_ => some k_ ≠ ((.slice a9 a2.length a8) : Value).ownBlock ∧ some k_ ≠ ((.slice a6 d4.length a5) : Value).ownBlock ∧ e8 k_) (.slice a4 b1.length a3) b1) ∧ Aside0 (wc.heap[i8]? = some (.cells #[.int .i64 g9, .int .i64 h0, .string h1, (.slice i4 g4.length i5), (.slice i6 g5.length i7)] 25 (0, 0))) ∧ Aside0 (wc.heap[b5]? = some (.cells #[.int .i64 f4, .int .i64 f6, .string f8, (.slice e0 b4.length d6), (.slice a9 a2.length a8)] 29 (0, 0))) ∧ Aside0 (wc.heap[a7]? = some (.cells #[.int .i64 f9, .int .i64 g2, .string g6, (.slice d5 f1.length d3), (.slice a6 d4.length a5)] 29 (0, 0))) ∧ Aside0 (wc.heap[a0]? = some (.cells #[.int .i64 e6, .int .i64 e7, .string e9, (.slice d0 d2.length c0), (.slice a4 b1.length a3)] 29 (0, 0))) ∧ Aside0 (Below w.heap.size w wc))
       case first =>
        have H := O3.out; clear O3; replace H := zB0 H
        rcases H with ⟨rfl, H⟩ | ⟨rfl, H⟩
        ·exact absurd H (by simp)
        have H' := zA H; clear H
        go_wp2
        go_meet
        case rel => exact ⟨_, (by first | exact H' | (subst_vars; exact H')), ⟨by have := k4.out; have := k5.out; have := l7.out; first | omega | exact Nat.le_refl _⟩, ⟨by (with_reducible repeat (first | apply Kd.S_alloc | apply Kd.S_drewN | apply Kd.S_drew)); exact e1.out⟩, ⟨zR d7.out⟩, ⟨by (with_reducible repeat (first | apply Kd.S_alloc | apply Kd.S_drewN | apply Kd.S_drew)); exact e5.out⟩, ⟨zR d8.out⟩, ⟨by (with_reducible repeat (first | apply Kd.S_alloc | apply Kd.S_drewN | apply Kd.S_drew)); exact d9.out⟩, ⟨zR d1.out⟩, ⟨zK b2.out⟩, ⟨zK b3.out⟩, ⟨zK b7.out⟩, ⟨zK b6.out⟩, ⟨zW HB.out⟩⟩
       case rest =>
        clear O3
        try clear c1
        try clear c2
        try clear p2
        try clear c3
        try clear c4
        try clear c5
        try clear k0
        try clear l2
        try clear c6
        try clear c7
        try clear c8
        try clear c9
        try clear c10
        try clear k3
        try clear c24
        try clear c32
        try clear c33
        try clear c40
        try clear c41
        try clear c42
        try clear c47
        try clear c48
        try clear c49
        try clear c50
        try clear c52
        try clear c53
        try clear c56
        try clear c57
        try clear c58
        try clear c60
        try clear c61
        try clear c65
        try clear n1 n2 n3 n4 n5 n6 n7 n8 n9 o0
        try clear o1 o2 o3 o4 o5 o6 o7 o8 o9 p0
        try clear p1 p3 p4 p5 p6 p7 p8 p9 q0 q1
        try clear q2 q3 q4 q5 q6 q7 q8 q9 r0 r1
        try clear r4 r5 r6 r7 r8 r9 t0 t1 t2 t3
        try clear t4 t5 t6 t7 t8 t9 v0 v1 v2 v3
        try clear v4 v5 v6 v7 v8 v9 x0 x1 x2 x3
        try clear x4 x5 x6 x7 x8 x9 y0 y1 y2 y3
        try clear y4 y5 y6 y7 y8 y9 z0 z1 z2 z3
        try clear m0 m1 m2 m3 m4 m5 m6 m7 m8 m9
        try clear p2
        obtain ⟨kq, HA, n0, e1, d7, e5, d8, d9, d1, b2, b3, b7, b6, HB⟩ := hcut
        cases kq with
        | zero => exact absurd HA.out (by simp [laws_FnExactAtKey.j3])
        | succ O4 =>
         have H := HA.out; clear HA; simp only [laws_FnExactAtKey.j3] at H; replace H := Option.bind_eq_some_iff.mp H; obtain ⟨⟨O5, O6, O7, O8, O9⟩, T7, H⟩ := H
         try dsimp only at H
         have A66 := zA T7; clear T7; replace H := Option.bind_eq_some_iff.mp H; obtain ⟨a15, T8, H⟩ := H
         try dsimp only at H
         have A67 := zA T8; clear T8; have P0 := zA H; clear H
         try go_wp2
         replace e1 := zA (Kd.S_drew e1.out); replace d7 := zA (Kd.R_drew d7.out); replace e5 := zA (Kd.S_drew e5.out); replace d8 := zA (Kd.R_drew d8.out); replace d9 := zA (Kd.S_drew d9.out); replace d1 := zA (Kd.R_drew d1.out); replace b2 := zA (blk_drew b2.out); replace b3 := zA (blk_drew b3.out); replace b7 := zA (blk_drew b7.out); replace b6 := zA (blk_drew b6.out); replace HB := zA (below_drew1 HB.out)
         refine start_ (n := 5) (S := fun w' => w'.cell? ⟨a7, 0, none⟩ = some (.int .i64 f9) ∧ w'.cell? ⟨a7, 1, none⟩ = some (.int .i64 g2) ∧ w'.cell? ⟨a7, 2, none⟩ = some (.string g6) ∧ w'.cell? ⟨a7, 3, none⟩ = some (.slice d5 f1.length d3) ∧ w'.cell? ⟨a7, 4, none⟩ = some (.slice a6 d4.length a5) ∧ w'.cell? ⟨i8, 0, none⟩ = some (.int .i64 g9) ∧ w'.cell? ⟨i8, 1, none⟩ = some (.int .i64 h0) ∧ w'.cell? ⟨i8, 2, none⟩ = some (.string h1) ∧ w'.cell? ⟨i8, 3, none⟩ = some (.slice i4 g4.length i5) ∧ w'.cell? ⟨i8, 4, none⟩ = some (.slice i6 g5.length i7)) (ds := []) (Array.replicate 5 false) (by kernel_rfl) rfl rfl zO fun hHeld => ?_
         generalize wc.drew = w69 at e1 d7 e5 d8 d9 d1 b2 b3 b7 b6 HB hHeld ⊢; refine zt 0 48 ?_; refine zt 1 49 ?_
         refine zo 2 (some 50) fun K hK => ?_
         refine goes_ Try.func8 (by kernel_rfl) rfl #[.agg #[.int .i64 g9, .int .i64 h0, .string h1, .slice i4 g4.length i5, .slice i6 g5.length i7]] (by rfl) rfl rfl zM ?_
         with_reducible refine (laws_toVal.calls O4 g9 h0 h1 _ _ g4 _ _ g5 O5 O6 O7 O8 O9 _ ?s1 ?s2 ?s3 ?s4 A66.out).mono ?_
         (case s1 => exact zC (Kd.C_below I1.out HB.out))
         (case s2 => exact I2.out)
         (case s3 => exact zC (Kd.C_below I3.out HB.out))
         (case s4 => exact I4.out)
         rintro e w70 ⟨a3p, a3q, rfl, g7, f0, hb⟩
         refine ⟨_, rfl, ?_⟩
         obtain ⟨h4, B6⟩ := Deep.named hb; have I6 := zA (Kd.S_lower (Kd.S_newB (Kd.S_newB (Kd.S_newB (Kd.S_new' (Kd.S_new' (Kd.S_new' (Kd.S_new' (Kd.S_new' (Kd.S_new' (Deep.S_newT B6 g7) (Kd.S_lt (by (with_reducible repeat (first | apply Kd.S_alloc | apply Kd.S_drewN | apply Kd.S_drew)); exact e1.out))) (Kd.R_lt (zR d7.out))) (Kd.S_lt (by (with_reducible repeat (first | apply Kd.S_alloc | apply Kd.S_drewN | apply Kd.S_drew)); exact e5.out))) (Kd.R_lt (zR d8.out))) (Kd.S_lt (by (with_reducible repeat (first | apply Kd.S_alloc | apply Kd.S_drewN | apply Kd.S_drew)); exact d9.out))) (Kd.R_lt (zR d1.out))) (g := b5) (o := .cells #[.int .i64 f4, .int .i64 f6, .string f8, .slice e0 b4.length d6, .slice a9 a2.length a8] 29 (0, 0)) (zK b3.out)) (g := a7) (o := .cells #[.int .i64 f9, .int .i64 g2, .string g6, .slice d5 f1.length d3, .slice a6 d4.length a5] 29 (0, 0)) (zK b7.out)) (g := a0) (o := .cells #[.int .i64 e6, .int .i64 e7, .string e9, .slice d0 d2.length c0, .slice a4 b1.length a3] 29 (0, 0)) (zK b6.out)) (below_size (zW HB.out))); replace e1 := zA (Deep.S_oldT B6 (Kd.S_told (Kd.S_told (Kd.S_old (by (with_reducible repeat (first | apply Kd.S_alloc | apply Kd.S_drewN | apply Kd.S_drew)); exact e1.out) hb) (Kd.S_base g7)) (Kd.R_base f0))); replace e5 := zA (Deep.S_oldT B6 (Kd.S_told (Kd.S_told (Kd.S_old (by (with_reducible repeat (first | apply Kd.S_alloc | apply Kd.S_drewN | apply Kd.S_drew)); exact e5.out) hb) (Kd.S_base g7)) (Kd.R_base f0))); replace d9 := zA (Deep.S_oldT B6 (Kd.S_told (Kd.S_told (Kd.S_old (by (with_reducible repeat (first | apply Kd.S_alloc | apply Kd.S_drewN | apply Kd.S_drew)); exact d9.out) hb) (Kd.S_base g7)) (Kd.R_base f0))); have I7 := zA (Kd.R_lower (Kd.R_new' (Kd.R_new' (Kd.R_new' (Deep.R_newT B6 f0) (Kd.R_lt (zR d7.out))) (Kd.R_lt (zR d8.out))) (Kd.R_lt (zR d1.out))) (below_size (zW HB.out))); replace d7 := zA (Kd.R_elder' (zR d7.out) (Kd.R_base f0) hb); replace d8 := zA (Kd.R_elder' (zR d8.out) (Kd.R_base f0) hb); replace d1 := zA (Kd.R_elder' (zR d1.out) (Kd.R_base f0) hb); replace b2 := zb b2 hb; replace b3 := zb b3 hb; replace b7 := zb b7 hb; replace b6 := zb b6 hb; replace HB := zh HB hb; clear B6
         (try clear hb g7 f0)
         obtain ⟨a17, a18, T9⟩ := Kd.S_slice I6.out
         (first | subst T9 | (injection T9 with f1_ f2_ f3_; have P1 := f1_.symm; have P2 := f3_.symm; clear f1_ f2_ f3_; subst P1; subst P2))
         obtain ⟨a19, a1a, U0⟩ := Kd.R_slice I7.out
         (first | subst U0 | (injection U0 with f1_ f2_ f3_; have P1 := f1_.symm; have P2 := f3_.symm; clear f1_ f2_ f3_; subst P1; subst P2))
         refine hK.out _ _ zO fun hHeld => ?_
         clear hK K; refine zn ?_
         refine zo 3 (some 51) fun K hK => ?_
         refine goes_ Try.func10 (by kernel_rfl) rfl #[.agg #[.int .i64 f9, .int .i64 g2, .string g6, .slice d5 f1.length d3, .slice a6 d4.length a5], .agg #[.int .i64 O5, .int .i64 O6, .string O7, .slice a17 O8.length a18, .slice a19 O9.length a1a]] (by rfl) rfl rfl zM ?_
         with_reducible refine (laws_eqVal.calls O4 f9 g2 g6 _ _ f1 _ _ d4 O5 O6 O7 _ _ O8 _ _ O9 a15 _ ?s1 ?s2 ?s3 ?s4 ?s5 ?s6 ?s7 ?s8 A67.out).mono ?_
         (case s1 => exact zC (Kd.S_reads' e5.out).2.2)
         (case s2 => exact (Kd.S_reads' e5.out).2.1)
         (case s3 => exact zC (Kd.R_reads' d8.out).2.2)
         (case s4 => exact (Kd.R_reads' d8.out).2.1)
         (case s5 => exact zC (Kd.S_reads' I6.out).2.2)
         (case s6 => exact (Kd.S_reads' I6.out).2.1)
         (case s7 => exact zC (Kd.R_reads' I7.out).2.2)
         (case s8 => exact (Kd.R_reads' I7.out).2.1)
         rintro e w74 ⟨rfl, hb⟩
         refine ⟨_, rfl, ?_⟩
         replace e1 := zA (Kd.S_below (by (with_reducible repeat (first | apply Kd.S_alloc | apply Kd.S_drewN | apply Kd.S_drew)); exact e1.out) hb); replace d7 := zr d7 hb; replace e5 := zA (Kd.S_below (by (with_reducible repeat (first | apply Kd.S_alloc | apply Kd.S_drewN | apply Kd.S_drew)); exact e5.out) hb); replace d8 := zr d8 hb; replace d9 := zA (Kd.S_below (by (with_reducible repeat (first | apply Kd.S_alloc | apply Kd.S_drewN | apply Kd.S_drew)); exact d9.out) hb); replace d1 := zr d1 hb; replace I6 := zA (Kd.S_below (by (with_reducible repeat (first | apply Kd.S_alloc | apply Kd.S_drewN | apply Kd.S_drew)); exact I6.out) hb); replace I7 := zr I7 hb; replace b2 := zb b2 hb; replace b3 := zb b3 hb; replace b7 := zb b7 hb; replace b6 := zb b6 hb; replace HB := zh HB hb
         (try clear hb)
         refine hK.out _ _ zO fun hHeld => ?_
         clear hK K; refine zn ?_; refine zp 4 52 ?_
         refine done_ (by kernel_rfl) ?_
         go_upto_if 52 with (fail)
         go_cut [] (fun wc => ∃ (kq : Nat), Aside0 (laws_FnExactAtKey.j4 kq a1 l4 B2 g9 h0 h1 g4 g5 f4 f6 f8 b4 a2 f9 g2 g6 f1 d4 e6 e7 e9 d2 b1 = some r) ∧ Aside0 (kq ≤ O4) ∧ Aside0 (Kd.S k29 29 wc w.heap.size (fun k_ => some k_ ≠ ((.slice a9 a2.length a8) : Value).ownBlock ∧ some k_ ≠ ((.slice d5 f1.length d3) : Value).ownBlock ∧ some k_ ≠ ((.slice a6 d4.length a5) : Value).ownBlock ∧ some k_ ≠ ((.slice d0 d2.length c0) : Value).ownBlock ∧ some k_ ≠ ((.slice a4 b1.length a3) : Value).ownBlock ∧ k_ ≠ b5 ∧ k_ ≠ a7 ∧ k_ ≠ a0 ∧ h6 k_ ∧ ¬ g0 k_ ∧ ¬ e8 k_ ∧ ¬ h4 k_) (.slice e0 b4.length d6) b4) ∧ Aside0 (Kd.R Kd.string 9 wc w.heap.size (fun k_ => some k_ ≠ ((.slice a6 d4.length a5) : Value).ownBlock ∧ some k_ ≠ ((.slice a4 b1.length a3) : Value).ownBlock ∧ h6 k_) (.slice a9 a2.length a8) a2) ∧ Aside0 (Kd.S k29 29 wc w.heap.size (fun k_ => some k_ ≠ ((.slice e0 b4.length d6) : Value).ownBlock ∧ some k_ ≠ ((.slice a9 a2.length a8) : Value).ownBlock ∧ some k_ ≠ ((.slice a6 d4.length a5) : Value).ownBlock ∧ some k_ ≠ ((.slice d0 d2.length c0) : Value).ownBlock ∧ some k_ ≠ ((.slice a4 b1.length a3) : Value).ownBlock ∧ k_ ≠ b5 ∧ k_ ≠ a7 ∧ k_ ≠ a0 ∧ g0 k_ ∧ ¬ e8 k_ ∧ ¬ h4 k_) (.slice d5 f1.length d3) f1) ∧ Aside0 (Kd.R Kd.string 9 wc w.heap.size (fun k_ => some k_ ≠ ((.slice a9 a2.length a8) : Value).ownBlock ∧ some k_ ≠ ((.slice a4 b1.length a3) : Value).ownBlock ∧ g0 k_) (.slice a6 d4.length a5) d4) ∧ Aside0 (Kd.S k29 29 wc w.heap.size (fun k_ => some k_ ≠ ((.slice e0 b4.length d6) : Value).ownBlock ∧ some k_ ≠ ((.slice a9 a2.length a8) : Value).ownBlock ∧ some k_ ≠ ((.slice d5 f1.length d3) : Value).ownBlock ∧ some k_ ≠ ((.slice a6 d4.length a5) : Value).ownBlock ∧ some k_ ≠ ((.slice a4 b1.length a3) : Value).ownBlock ∧ k_ ≠ b5 ∧ k_ ≠ a7 ∧ k_ ≠ a0 ∧ e8 k_ ∧ ¬ h4 k_) (.slice d0 d2.length c0) d2) ∧ Aside0 (Kd.R Kd.string 9 wc w.heap.size (fun k_ => some k_ ≠ ((.slice a9 a2.length a8) : Value).ownBlock ∧ some k_ ≠ ((.slice a6 d4.length a5) : Value).ownBlock ∧ e8 k_) (.slice a4 b1.length a3) b1) ∧ Aside0 (wc.heap[i8]? = some (.cells #[.int .i64 g9, .int .i64 h0, .string h1, (.slice i4 g4.length i5), (.slice i6 g5.length i7)] 25 (0, 0))) ∧ Aside0 (wc.heap[b5]? = some (.cells #[.int .i64 f4, .int .i64 f6, .string f8, (.slice e0 b4.length d6), (.slice a9 a2.length a8)] 29 (0, 0))) ∧ Aside0 (wc.heap[a7]? = some (.cells #[.int .i64 f9, .int .i64 g2, .string g6, (.slice d5 f1.length d3), (.slice a6 d4.length a5)] 29 (0, 0))) ∧ Aside0 (wc.heap[a0]? = some (.cells #[.int .i64 e6, .int .i64 e7, .string e9, (.slice d0 d2.length c0), (.slice a4 b1.length a3)] 29 (0, 0))) ∧ Aside0 (Below w.heap.size w wc))
         case first =>
          have H := P0.out; clear P0; replace H := zB0 H
          rcases H with ⟨rfl, H⟩ | ⟨rfl, H⟩
          ·have H' := zA H; clear H
           go_wp2
           go_meet
           case rel => exact ⟨_, (by first | exact H' | (subst_vars; exact H')), ⟨by have := k4.out; have := k5.out; have := l7.out; have := n0.out; first | omega | exact Nat.le_refl _⟩, ⟨by (with_reducible repeat (first | apply Kd.S_alloc | apply Kd.S_drewN | apply Kd.S_drew)); exact Kd.S_mono e1.out (fun _ hk => ⟨hk.1.1.1.1, ⟨hk.1.1.1.2.1, ⟨hk.1.1.1.2.2.1, ⟨hk.1.1.1.2.2.2.1, ⟨hk.1.1.1.2.2.2.2.1, ⟨hk.1.1.1.2.2.2.2.2.1, ⟨hk.1.1.1.2.2.2.2.2.2.1, ⟨hk.1.1.1.2.2.2.2.2.2.2.1, ⟨hk.1.1.1.2.2.2.2.2.2.2.2.1, ⟨hk.1.1.1.2.2.2.2.2.2.2.2.2.1, ⟨hk.1.1.1.2.2.2.2.2.2.2.2.2.2, hk.2⟩⟩⟩⟩⟩⟩⟩⟩⟩⟩⟩)⟩, ⟨zR (Kd.R_mono d7.out (fun _ hk => ⟨hk.1.1, ⟨hk.1.2.1, hk.1.2.2⟩⟩))⟩, ⟨by (with_reducible repeat (first | apply Kd.S_alloc | apply Kd.S_drewN | apply Kd.S_drew)); exact Kd.S_mono e5.out (fun _ hk => ⟨hk.1.1.1.1, ⟨hk.1.1.1.2.1, ⟨hk.1.1.1.2.2.1, ⟨hk.1.1.1.2.2.2.1, ⟨hk.1.1.1.2.2.2.2.1, ⟨hk.1.1.1.2.2.2.2.2.1, ⟨hk.1.1.1.2.2.2.2.2.2.1, ⟨hk.1.1.1.2.2.2.2.2.2.2.1, ⟨hk.1.1.1.2.2.2.2.2.2.2.2.1, ⟨hk.1.1.1.2.2.2.2.2.2.2.2.2, hk.2⟩⟩⟩⟩⟩⟩⟩⟩⟩⟩)⟩, ⟨zR (Kd.R_mono d8.out (fun _ hk => ⟨hk.1.1, ⟨hk.1.2.1, hk.1.2.2⟩⟩))⟩, ⟨by (with_reducible repeat (first | apply Kd.S_alloc | apply Kd.S_drewN | apply Kd.S_drew)); exact Kd.S_mono d9.out (fun _ hk => ⟨hk.1.1.1.1, ⟨hk.1.1.1.2.1, ⟨hk.1.1.1.2.2.1, ⟨hk.1.1.1.2.2.2.1, ⟨hk.1.1.1.2.2.2.2.1, ⟨hk.1.1.1.2.2.2.2.2.1, ⟨hk.1.1.1.2.2.2.2.2.2.1, ⟨hk.1.1.1.2.2.2.2.2.2.2.1, ⟨hk.1.1.1.2.2.2.2.2.2.2.2, hk.2⟩⟩⟩⟩⟩⟩⟩⟩⟩)⟩, ⟨zR (Kd.R_mono d1.out (fun _ hk => ⟨hk.1.1, ⟨hk.1.2.1, hk.1.2.2⟩⟩))⟩, ⟨zK b2.out⟩, ⟨zK b3.out⟩, ⟨zK b7.out⟩, ⟨zK b6.out⟩, ⟨zW HB.out⟩⟩
          exact absurd H (by simp)
         case rest =>
          clear P0
          try clear c1
          try clear c2
          try clear p2
          try clear c3
          try clear c4
          try clear c5
          try clear k0
          try clear l2
          try clear c6
          try clear c7
          try clear c8
          try clear c9
          try clear c10
          try clear k3
          try clear c24
          try clear c32
          try clear c33
          try clear c40
          try clear c41
          try clear c42
          try clear c47
          try clear c48
          try clear c49
          try clear c50
          try clear c52
          try clear c53
          try clear c56
          try clear c57
          try clear c58
          try clear c60
          try clear c61
          try clear c65
          try clear c75
          try clear n1 n2 n3 n4 n5 n6 n7 n8 n9 o0
          try clear o1 o2 o3 o4 o5 o6 o7 o8 o9 p0
          try clear p1 p3 p4 p5 p6 p7 p8 p9 q0 q1
          try clear q2 q3 q4 q5 q6 q7 q8 q9 r0 r1
          try clear r4 r5 r6 r7 r8 r9 t0 t1 t2 t3
          try clear t4 t5 t6 t7 t8 t9 v0 v1 v2 v3
          try clear v4 v5 v6 v7 v8 v9 x0 x1 x2 x3
          try clear x4 x5 x6 x7 x8 x9 y0 y1 y2 y3
          try clear y4 y5 y6 y7 y8 y9 z0 z1 z2 z3
          try clear m0 m1 m2 m3 m4 m5 m6 m7 m8 m9
          try clear p2
          obtain ⟨kq, HA, z4, e1, d7, e5, d8, d9, d1, b2, b3, b7, b6, HB⟩ := hcut
          cases kq with
          | zero => exact absurd HA.out (by simp [laws_FnExactAtKey.j4])
          | succ J7 =>
           have H := HA.out; clear HA; simp only [laws_FnExactAtKey.j4] at H; replace H := Option.bind_eq_some_iff.mp H; obtain ⟨⟨a1b, g3, e2⟩, U1, H⟩ := H
           try dsimp only at H
           have A76 := zA U1; clear U1; have P3 := zA H; clear H; have a3s := O1.out; have a3t := O0.out; have a3v := A1.out; have a3x := A0.out; have a3y := A4.out; have a3z := A5.out; obtain ⟨B7, B8, B9, C0, C1, C2, C3, C4, C5, C6⟩ := ze5 b7.out
           go_upto_region 16 with (first | ((with_reducible refine zq 11 ?_); refine zg (some 55) Try.func11 #[.agg #[.int .i64 f9, .int .i64 g2, .string g6, .slice d5 f1.length d3, .slice a6 d4.length a5], .int .i64 1] ?_; (with_reducible refine (laws_markVal.calls J7 f9 g2 g6 (fun k_ => ((some k_ ≠ (.slice e0 b4.length d6 : Value).ownBlock ∧ (some k_ ≠ (.slice a9 a2.length a8 : Value).ownBlock ∧ (some k_ ≠ (.slice a6 d4.length a5 : Value).ownBlock ∧ (some k_ ≠ (.slice d0 d2.length c0 : Value).ownBlock ∧ (some k_ ≠ (.slice a4 b1.length a3 : Value).ownBlock ∧ (k_ ≠ b5 ∧ (k_ ≠ a7 ∧ (k_ ≠ a0 ∧ (g0 k_ ∧ (¬ e8 k_ ∧ ¬ h4 k_)))))))))) ∧ k_ ≠ i8) ∧ w.heap.size ≤ k_) (.slice d5 f1.length d3) f1 (fun k_ => some k_ = (.slice a6 d4.length a5 : Value).ownBlock) (.slice a6 d4.length a5) d4 1 a1b g3 e2 w _ ?s1 ?s2 ?s3 A76.out).mono ?_); (case s1 => exact zW HB.out); (case s2 => exact Kd.S_mono (Kd.S_bound (Kd.S_types e5.out b2.out (by decide))) (fun _ hk => ⟨⟨hk.1, hk.2.1⟩, hk.1.1.2.2.1⟩)); (case s3 => exact Kd.R_tight rfl d8.out); rintro e w82 ⟨rfl, I8, I9, hb, hkp⟩; refine ⟨_, rfl, ?_⟩; replace e1 := zA (Kd.S_mono (ok' := fun k_ => some k_ ≠ (.slice a9 a2.length a8 : Value).ownBlock ∧ some k_ ≠ (.slice d5 f1.length d3 : Value).ownBlock ∧ some k_ ≠ (.slice a6 d4.length a5 : Value).ownBlock ∧ some k_ ≠ (.slice d0 d2.length c0 : Value).ownBlock ∧ some k_ ≠ (.slice a4 b1.length a3 : Value).ownBlock ∧ k_ ≠ b5 ∧ k_ ≠ a7 ∧ k_ ≠ a0 ∧ h6 k_ ∧ ¬ g0 k_ ∧ ¬ e8 k_ ∧ ¬ h4 k_) (Kd.S_keptB (e1.out) hkp (fun k_ hk_ hs_ => Or.elim hs_ (fun e_ => (fun e_ => (hk_.2.2.2.2.2.2.2.2.2.1) (e_.1.1.2.2.2.2.2.2.2.2.1)) e_) (fun e_ => (hk_.2.2.1) e_))) (fun k_ hk_ => ⟨hk_.1.1, hk_.1.2.1, hk_.1.2.2.1, hk_.1.2.2.2.1, hk_.1.2.2.2.2.1, hk_.1.2.2.2.2.2.1, hk_.1.2.2.2.2.2.2.1, hk_.1.2.2.2.2.2.2.2.1, hk_.1.2.2.2.2.2.2.2.2.1, hk_.1.2.2.2.2.2.2.2.2.2.1, hk_.1.2.2.2.2.2.2.2.2.2.2.1, hk_.1.2.2.2.2.2.2.2.2.2.2.2⟩)); replace d7 := zA (Kd.R_mono (ok' := fun k_ => some k_ ≠ (.slice a6 d4.length a5 : Value).ownBlock ∧ some k_ ≠ (.slice a4 b1.length a3 : Value).ownBlock ∧ h6 k_) (Kd.R_keptB ((Kd.R_tight2 rfl d7.out)) hkp (fun k_ hk_ hs_ => Or.elim hs_ (fun e_ => (fun e_ => (e_.1.1.2.1) (hk_.1)) e_) (fun e_ => (hk_.2.1) e_))) (fun k_ hk_ => ⟨hk_.1.2.1, hk_.1.2.2.1, hk_.1.2.2.2⟩)); replace e5 := zA (Kd.S_mono (ok' := fun k_ => (some k_ ≠ (.slice e0 b4.length d6 : Value).ownBlock ∧ (some k_ ≠ (.slice a9 a2.length a8 : Value).ownBlock ∧ (some k_ ≠ (.slice a6 d4.length a5 : Value).ownBlock ∧ (some k_ ≠ (.slice d0 d2.length c0 : Value).ownBlock ∧ (some k_ ≠ (.slice a4 b1.length a3 : Value).ownBlock ∧ (k_ ≠ b5 ∧ (k_ ≠ a7 ∧ (k_ ≠ a0 ∧ (g0 k_ ∧ (¬ e8 k_ ∧ ¬ h4 k_))))))))))) I8 (fun k_ hk_ => ⟨hk_.1.1.1, ⟨hk_.1.1.2.1, ⟨hk_.1.1.2.2.1, ⟨hk_.1.1.2.2.2.1, ⟨hk_.1.1.2.2.2.2.1, ⟨hk_.1.1.2.2.2.2.2.1, ⟨hk_.1.1.2.2.2.2.2.2.1, ⟨hk_.1.1.2.2.2.2.2.2.2.1, ⟨hk_.1.1.2.2.2.2.2.2.2.2.1, ⟨hk_.1.1.2.2.2.2.2.2.2.2.2.1, hk_.1.1.2.2.2.2.2.2.2.2.2.2⟩⟩⟩⟩⟩⟩⟩⟩⟩⟩)); replace d9 := zA (Kd.S_mono (ok' := fun k_ => some k_ ≠ (.slice e0 b4.length d6 : Value).ownBlock ∧ some k_ ≠ (.slice a9 a2.length a8 : Value).ownBlock ∧ some k_ ≠ (.slice d5 f1.length d3 : Value).ownBlock ∧ some k_ ≠ (.slice a6 d4.length a5 : Value).ownBlock ∧ some k_ ≠ (.slice a4 b1.length a3 : Value).ownBlock ∧ k_ ≠ b5 ∧ k_ ≠ a7 ∧ k_ ≠ a0 ∧ e8 k_ ∧ ¬ h4 k_) (Kd.S_keptB (d9.out) hkp (fun k_ hk_ hs_ => Or.elim hs_ (fun e_ => (fun e_ => (e_.1.1.2.2.2.2.2.2.2.2.2.1) (hk_.2.2.2.2.2.2.2.2.1)) e_) (fun e_ => (hk_.2.2.2.1) e_))) (fun k_ hk_ => ⟨hk_.1.1, hk_.1.2.1, hk_.1.2.2.1, hk_.1.2.2.2.1, hk_.1.2.2.2.2.1, hk_.1.2.2.2.2.2.1, hk_.1.2.2.2.2.2.2.1, hk_.1.2.2.2.2.2.2.2.1, hk_.1.2.2.2.2.2.2.2.2.1, hk_.1.2.2.2.2.2.2.2.2.2⟩)); replace d1 := zA (Kd.R_mono (ok' := fun k_ => some k_ ≠ (.slice a9 a2.length a8 : Value).ownBlock ∧ some k_ ≠ (.slice a6 d4.length a5 : Value).ownBlock ∧ e8 k_) (Kd.R_keptB ((Kd.R_tight2 rfl d1.out)) hkp (fun k_ hk_ hs_ => Or.elim hs_ (fun e_ => (fun e_ => (e_.1.1.2.2.2.2.1) (hk_.1)) e_) (fun e_ => (hk_.2.2.1) e_))) (fun k_ hk_ => ⟨hk_.1.2.1, hk_.1.2.2.1, hk_.1.2.2.2⟩)); replace b2 := zA (blk_kept (zK b2.out) hkp (fun hs_ => Or.elim hs_ (fun e_ => (fun e_ => (e_.1.2) rfl) e_) (fun e_ => (fun e_ => (Kd.R_ne d8.out b2.out (by decide)) e_) e_))); replace b3 := zA (blk_kept (zK b3.out) hkp (fun hs_ => Or.elim hs_ (fun e_ => (fun e_ => (e_.1.1.2.2.2.2.2.1) rfl) e_) (fun e_ => (fun e_ => (Kd.R_ne d8.out b3.out (by decide)) e_) e_))); replace b7 := zA (blk_kept (zK b7.out) hkp (fun hs_ => Or.elim hs_ (fun e_ => (fun e_ => (e_.1.1.2.2.2.2.2.2.1) rfl) e_) (fun e_ => (fun e_ => (Kd.R_ne d8.out b7.out (by decide)) e_) e_))); replace b6 := zA (blk_kept (zK b6.out) hkp (fun hs_ => Or.elim hs_ (fun e_ => (fun e_ => (e_.1.1.2.2.2.2.2.2.2.1) rfl) e_) (fun e_ => (fun e_ => (Kd.R_ne d8.out b6.out (by decide)) e_) e_))); replace d8 := zA (Kd.R_reok rfl I9 (fun k_ e_ => d8.out.1 k_ e_)); replace HB := zA (hb); (try clear hb); (try clear hkp); (try clear I8); (try clear I9)))
           (try simp only [Act.put, zT])
           go_cut [68] (fun v68 wc => ∃ (kq : Nat) (P4 : Bool), v68 = .bool P4 ∧ Aside0 (laws_FnExactAtKey.j5 kq a1 l4 P4 g9 h0 h1 g4 g5 f4 f6 f8 b4 a2 e6 e7 e9 d2 b1 = some r) ∧ Aside0 (kq ≤ J7) ∧ Aside0 (Kd.S k29 29 wc w.heap.size (fun k_ => some k_ ≠ ((.slice a9 a2.length a8) : Value).ownBlock ∧ some k_ ≠ ((.slice d5 f1.length d3) : Value).ownBlock ∧ some k_ ≠ ((.slice a6 d4.length a5) : Value).ownBlock ∧ some k_ ≠ ((.slice d0 d2.length c0) : Value).ownBlock ∧ some k_ ≠ ((.slice a4 b1.length a3) : Value).ownBlock ∧ k_ ≠ b5 ∧ k_ ≠ a7 ∧ k_ ≠ a0 ∧ h6 k_ ∧ ¬ g0 k_ ∧ ¬ e8 k_ ∧ ¬ h4 k_) (.slice e0 b4.length d6) b4) ∧ Aside0 (Kd.R Kd.string 9 wc w.heap.size (fun k_ => some k_ ≠ ((.slice a6 d4.length a5) : Value).ownBlock ∧ some k_ ≠ ((.slice a4 b1.length a3) : Value).ownBlock ∧ h6 k_) (.slice a9 a2.length a8) a2) ∧ Aside0 (Kd.S k29 29 wc w.heap.size (fun k_ => some k_ ≠ ((.slice e0 b4.length d6) : Value).ownBlock ∧ some k_ ≠ ((.slice a9 a2.length a8) : Value).ownBlock ∧ some k_ ≠ ((.slice a6 d4.length a5) : Value).ownBlock ∧ some k_ ≠ ((.slice d0 d2.length c0) : Value).ownBlock ∧ some k_ ≠ ((.slice a4 b1.length a3) : Value).ownBlock ∧ k_ ≠ b5 ∧ k_ ≠ a7 ∧ k_ ≠ a0 ∧ g0 k_ ∧ ¬ e8 k_ ∧ ¬ h4 k_) (.slice d5 f1.length d3) g3) ∧ Aside0 (Kd.R Kd.string 9 wc w.heap.size (fun k_ => some k_ ≠ ((.slice a9 a2.length a8) : Value).ownBlock ∧ some k_ ≠ ((.slice a4 b1.length a3) : Value).ownBlock ∧ g0 k_) (.slice a6 d4.length a5) e2) ∧ Aside0 (Kd.S k29 29 wc w.heap.size (fun k_ => some k_ ≠ ((.slice e0 b4.length d6) : Value).ownBlock ∧ some k_ ≠ ((.slice a9 a2.length a8) : Value).ownBlock ∧ some k_ ≠ ((.slice d5 f1.length d3) : Value).ownBlock ∧ some k_ ≠ ((.slice a6 d4.length a5) : Value).ownBlock ∧ some k_ ≠ ((.slice a4 b1.length a3) : Value).ownBlock ∧ k_ ≠ b5 ∧ k_ ≠ a7 ∧ k_ ≠ a0 ∧ e8 k_ ∧ ¬ h4 k_) (.slice d0 d2.length c0) d2) ∧ Aside0 (Kd.R Kd.string 9 wc w.heap.size (fun k_ => some k_ ≠ ((.slice a9 a2.length a8) : Value).ownBlock ∧ some k_ ≠ ((.slice a6 d4.length a5) : Value).ownBlock ∧ e8 k_) (.slice a4 b1.length a3) b1) ∧ Aside0 (wc.heap[i8]? = some (.cells #[.int .i64 g9, .int .i64 h0, .string h1, (.slice i4 g4.length i5), (.slice i6 g5.length i7)] 25 (0, 0))) ∧ Aside0 (wc.heap[b5]? = some (.cells #[.int .i64 f4, .int .i64 f6, .string f8, (.slice e0 b4.length d6), (.slice a9 a2.length a8)] 29 (0, 0))) ∧ Aside0 (wc.heap[a7]? = some (.cells #[.int .i64 f9, .int .i64 g2, .string g6, (.slice d5 f1.length d3), (.slice a6 d4.length a5)] 29 (0, 0))) ∧ Aside0 (wc.heap[a0]? = some (.cells #[.int .i64 e6, .int .i64 e7, .string e9, (.slice d0 d2.length c0), (.slice a4 b1.length a3)] 29 (0, 0))) ∧ Aside0 (Below w.heap.size w wc))
           case first =>
            have H := P3.out; clear P3; replace H := zI0 H
            rcases H with ⟨l8, H⟩ | ⟨l8, H⟩
            ·(first | rw [l8] | (simp only [i64_w, i32_w]; rw [l8]) | skip)
             have H' := zA H; clear H
             go_wp2
             go_meet
             case rel => exact ⟨_, (true), zS, (by first | exact H' | (subst_vars; exact H')), ⟨by have := k4.out; have := k5.out; have := l7.out; have := n0.out; have := z4.out; first | omega | exact Nat.le_refl _⟩, ⟨by (with_reducible repeat (first | apply Kd.S_alloc | apply Kd.S_drewN | apply Kd.S_drew)); exact e1.out⟩, ⟨zR d7.out⟩, ⟨by (with_reducible repeat (first | apply Kd.S_alloc | apply Kd.S_drewN | apply Kd.S_drew)); exact e5.out⟩, ⟨zR d8.out⟩, ⟨by (with_reducible repeat (first | apply Kd.S_alloc | apply Kd.S_drewN | apply Kd.S_drew)); exact d9.out⟩, ⟨zR d1.out⟩, ⟨zK b2.out⟩, ⟨zK b3.out⟩, ⟨zK b7.out⟩, ⟨zK b6.out⟩, ⟨zW HB.out⟩⟩
            (first | rw [l8] | (simp only [i64_w, i32_w]; rw [l8]) | skip)
            replace H := Option.bind_eq_some_iff.mp H; obtain ⟨a41, U2, H⟩ := H
            try dsimp only at H
            have U3 := zA U2; clear U2; replace H := zB0 H
            rcases H with ⟨rfl, H⟩ | ⟨rfl, H⟩
            ·have H' := zA H; clear H; have a42 := A3.out; have a43 := A2.out; have a44 := r3.out; have a45 := r2.out; have a46 := A5.out; have a47 := A4.out; obtain ⟨C7, C8, C9, D0, D1, D2, D3, D4, D5, D6⟩ := ze5 b6.out; have a48 := z9.out; have a49 := z8.out; have a4a := A0.out; have a4b := A1.out; obtain ⟨D7, D8, D9, E0, E1, E2, E3, E4, E5, E6⟩ := ze5 b3.out
             go_wp2_with (first | (go_at_call 10; (with_reducible refine (laws_eqVal.calls J7 e6 e7 e9 _ _ d2 _ _ b1 f4 f6 f8 _ _ b4 _ _ a2 true _ ?s1 ?s2 ?s3 ?s4 ?s5 ?s6 ?s7 ?s8 U3.out).mono ?_); (case s1 => exact zC (Kd.S_reads' d9.out).2.2); (case s2 => exact (Kd.S_reads' d9.out).2.1); (case s3 => exact zC (Kd.R_reads' d1.out).2.2); (case s4 => exact (Kd.R_reads' d1.out).2.1); (case s5 => exact zC (Kd.S_reads' e1.out).2.2); (case s6 => exact (Kd.S_reads' e1.out).2.1); (case s7 => exact zC (Kd.R_reads' d7.out).2.2); (case s8 => exact (Kd.R_reads' d7.out).2.1); rintro e w93 ⟨rfl, hb⟩; replace e1 := zA (Kd.S_below (by (with_reducible repeat (first | apply Kd.S_alloc | apply Kd.S_drewN | apply Kd.S_drew)); exact e1.out) hb); replace d7 := zr d7 hb; replace e5 := zA (Kd.S_below (by (with_reducible repeat (first | apply Kd.S_alloc | apply Kd.S_drewN | apply Kd.S_drew)); exact e5.out) hb); replace d8 := zr d8 hb; replace d9 := zA (Kd.S_below (by (with_reducible repeat (first | apply Kd.S_alloc | apply Kd.S_drewN | apply Kd.S_drew)); exact d9.out) hb); replace d1 := zr d1 hb; replace b2 := zb b2 hb; replace b3 := zb b3 hb; replace b7 := zb b7 hb; replace b6 := zb b6 hb; replace HB := zh HB hb; (try clear hb)))
             go_meet
             case rel => exact ⟨_, ((B2 != l4)), zS, (by first | exact H' | (subst_vars; exact H')), ⟨by have := k4.out; have := k5.out; have := l7.out; have := n0.out; have := z4.out; first | omega | exact Nat.le_refl _⟩, ⟨by (with_reducible repeat (first | apply Kd.S_alloc | apply Kd.S_drewN | apply Kd.S_drew)); exact e1.out⟩, ⟨zR d7.out⟩, ⟨by (with_reducible repeat (first | apply Kd.S_alloc | apply Kd.S_drewN | apply Kd.S_drew)); exact e5.out⟩, ⟨zR d8.out⟩, ⟨by (with_reducible repeat (first | apply Kd.S_alloc | apply Kd.S_drewN | apply Kd.S_drew)); exact d9.out⟩, ⟨zR d1.out⟩, ⟨zK b2.out⟩, ⟨zK b3.out⟩, ⟨zK b7.out⟩, ⟨zK b6.out⟩, ⟨zW HB.out⟩⟩
            have H' := zA H; clear H; have a4d := A3.out; have a4e := A2.out; have a4f := r3.out; have a4g := r2.out; have a4h := A5.out; have a4i := A4.out; obtain ⟨E7, E8, E9, F0, F1, F2, F3, F4, F5, F6⟩ := ze5 b6.out; have a4j := z9.out; have a4k := z8.out; have a4l := A0.out; have a4m := A1.out; obtain ⟨F7, F8, F9, G0, G1, G2, G3, G4, G5, G6⟩ := ze5 b3.out
            go_wp2_with (first | (go_at_call 10; (with_reducible refine (laws_eqVal.calls J7 e6 e7 e9 _ _ d2 _ _ b1 f4 f6 f8 _ _ b4 _ _ a2 false _ ?s1 ?s2 ?s3 ?s4 ?s5 ?s6 ?s7 ?s8 U3.out).mono ?_); (case s1 => exact zC (Kd.S_reads' d9.out).2.2); (case s2 => exact (Kd.S_reads' d9.out).2.1); (case s3 => exact zC (Kd.R_reads' d1.out).2.2); (case s4 => exact (Kd.R_reads' d1.out).2.1); (case s5 => exact zC (Kd.S_reads' e1.out).2.2); (case s6 => exact (Kd.S_reads' e1.out).2.1); (case s7 => exact zC (Kd.R_reads' d7.out).2.2); (case s8 => exact (Kd.R_reads' d7.out).2.1); rintro e a4n ⟨rfl, hb⟩; replace e1 := zA (Kd.S_below (by (with_reducible repeat (first | apply Kd.S_alloc | apply Kd.S_drewN | apply Kd.S_drew)); exact e1.out) hb); replace d7 := zr d7 hb; replace e5 := zA (Kd.S_below (by (with_reducible repeat (first | apply Kd.S_alloc | apply Kd.S_drewN | apply Kd.S_drew)); exact e5.out) hb); replace d8 := zr d8 hb; replace d9 := zA (Kd.S_below (by (with_reducible repeat (first | apply Kd.S_alloc | apply Kd.S_drewN | apply Kd.S_drew)); exact d9.out) hb); replace d1 := zr d1 hb; replace b2 := zb b2 hb; replace b3 := zb b3 hb; replace b7 := zb b7 hb; replace b6 := zb b6 hb; replace HB := zh HB hb; (try clear hb)))
            go_meet
            case rel => exact ⟨_, (true), zS, (by first | exact H' | (subst_vars; exact H')), ⟨by have := k4.out; have := k5.out; have := l7.out; have := n0.out; have := z4.out; first | omega | exact Nat.le_refl _⟩, ⟨by (with_reducible repeat (first | apply Kd.S_alloc | apply Kd.S_drewN | apply Kd.S_drew)); exact e1.out⟩, ⟨zR d7.out⟩, ⟨by (with_reducible repeat (first | apply Kd.S_alloc | apply Kd.S_drewN | apply Kd.S_drew)); exact e5.out⟩, ⟨zR d8.out⟩, ⟨by (with_reducible repeat (first | apply Kd.S_alloc | apply Kd.S_drewN | apply Kd.S_drew)); exact d9.out⟩, ⟨zR d1.out⟩, ⟨zK b2.out⟩, ⟨zK b3.out⟩, ⟨zK b7.out⟩, ⟨zK b6.out⟩, ⟨zW HB.out⟩⟩
           case rest =>
            clear P3
            try clear c1
            try clear c2
            try clear p2
            try clear c3
            try clear c4
            try clear c5
            try clear k0
            try clear l2
            try clear c6
            try clear c7
            try clear c8
            try clear c9
            try clear c10
            try clear k3
            try clear c11
            try clear c24
            try clear c32
            try clear c33
            try clear c40
            try clear c41
            try clear c42
            try clear c47
            try clear c48
            try clear c49
            try clear c50
            try clear c52
            try clear c53
            try clear c56
            try clear c57
            try clear c58
            try clear c60
            try clear c61
            try clear c65
            try clear c75
            try clear c78
            try clear c79
            try clear c80
            try clear c83
            try clear l8
            try clear c85
            try clear c86
            try clear c87
            try clear c88
            try clear c90
            try clear c91
            try clear c94
            try clear c95
            try clear c96
            try clear c98
            try clear c99
            try clear F7 F8 F9 G0 G1 G2 G3 G4 G5 G6
            try clear n1 n2 n3 n4 n5 n6 n7 n8 n9 o0
            try clear o1 o2 o3 o4 o5 o6 o7 o8 o9 p0
            try clear p1 p3 p4 p5 p6 p7 p8 p9 q0 q1
            try clear q2 q3 q4 q5 q6 q7 q8 q9 r0 r1
            try clear r4 r5 r6 r7 r8 r9 t0 t1 t2 t3
            try clear t4 t5 t6 t7 t8 t9 v0 v1 v2 v3
            try clear v4 v5 v6 v7 v8 v9 x0 x1 x2 x3
            try clear x4 x5 x6 x7 x8 x9 y0 y1 y2 y3
            try clear y4 y5 y6 y7 y8 y9 z0 z1 z2 z3
            try clear B7 B8 B9 C0 C1 C2 C3 C4 C5 C6
            try clear C7 C8 C9 D0 D1 D2 D3 D4 D5 D6
            try clear m0 m1 m2 m3 m4 m5 m6 m7 m8 m9
            try clear D7 D8 D9 E0 E1 E2 E3 E4 E5 E6
            try clear E7 E8 E9 F0 F1 F2 F3 F4 F5 F6
            try clear p2
            obtain ⟨kq, P4, rfl, HA, G7, e1, d7, e5, d8, d9, d1, b2, b3, b7, b6, HB⟩ := hcut; have b8 := (Kd.S_reads' e5.out).1; rw [b8] at e5
            (try simp only [b8])
            (try simp only [b8] at b2)
            (try simp only [b8] at b3)
            (try simp only [b8] at b7)
            (try simp only [b8] at b6)
            (try simp only [b8] at e1)
            (try simp only [b8] at d7)
            (try simp only [b8] at d8)
            (try simp only [b8] at d9)
            (try simp only [b8] at d1)
            have b9 := (Kd.R_reads' d8.out).1; rw [b9] at d8
            (try simp only [b9])
            (try simp only [b9] at b2)
            (try simp only [b9] at b3)
            (try simp only [b9] at b7)
            (try simp only [b9] at b6)
            (try simp only [b9] at e1)
            (try simp only [b9] at d7)
            (try simp only [b9] at e5)
            (try simp only [b9] at d9)
            (try simp only [b9] at d1)
            cases kq with
            | zero => exact absurd HA.out (by simp [laws_FnExactAtKey.j5])
            | succ a1e =>
             have H := HA.out; clear HA; simp only [laws_FnExactAtKey.j5] at H; have P5 := zA H; clear H
             go_upto_if 68 with (fail)
             go_cut [] (fun wc => ∃ (kq : Nat), Aside0 (laws_FnExactAtKey.j6 kq a1 l4 g9 h0 h1 g4 g5 f4 f6 f8 b4 a2 e6 e7 e9 d2 b1 = some r) ∧ Aside0 (kq ≤ a1e) ∧ Aside0 (Kd.S k29 29 wc w.heap.size (fun k_ => some k_ ≠ ((.slice a9 a2.length a8) : Value).ownBlock ∧ some k_ ≠ ((.slice d5 g3.length d3) : Value).ownBlock ∧ some k_ ≠ ((.slice a6 e2.length a5) : Value).ownBlock ∧ some k_ ≠ ((.slice d0 d2.length c0) : Value).ownBlock ∧ some k_ ≠ ((.slice a4 b1.length a3) : Value).ownBlock ∧ k_ ≠ b5 ∧ k_ ≠ a7 ∧ k_ ≠ a0 ∧ h6 k_ ∧ ¬ g0 k_ ∧ ¬ e8 k_ ∧ ¬ h4 k_) (.slice e0 b4.length d6) b4) ∧ Aside0 (Kd.R Kd.string 9 wc w.heap.size (fun k_ => some k_ ≠ ((.slice a6 e2.length a5) : Value).ownBlock ∧ some k_ ≠ ((.slice a4 b1.length a3) : Value).ownBlock ∧ h6 k_) (.slice a9 a2.length a8) a2) ∧ Aside0 (Kd.S k29 29 wc w.heap.size (fun k_ => some k_ ≠ ((.slice e0 b4.length d6) : Value).ownBlock ∧ some k_ ≠ ((.slice a9 a2.length a8) : Value).ownBlock ∧ some k_ ≠ ((.slice a6 e2.length a5) : Value).ownBlock ∧ some k_ ≠ ((.slice d0 d2.length c0) : Value).ownBlock ∧ some k_ ≠ ((.slice a4 b1.length a3) : Value).ownBlock ∧ k_ ≠ b5 ∧ k_ ≠ a7 ∧ k_ ≠ a0 ∧ g0 k_ ∧ ¬ e8 k_ ∧ ¬ h4 k_) (.slice d5 g3.length d3) g3) ∧ Aside0 (Kd.R Kd.string 9 wc w.heap.size (fun k_ => some k_ ≠ ((.slice a9 a2.length a8) : Value).ownBlock ∧ some k_ ≠ ((.slice a4 b1.length a3) : Value).ownBlock ∧ g0 k_) (.slice a6 e2.length a5) e2) ∧ Aside0 (Kd.S k29 29 wc w.heap.size (fun k_ => some k_ ≠ ((.slice e0 b4.length d6) : Value).ownBlock ∧ some k_ ≠ ((.slice a9 a2.length a8) : Value).ownBlock ∧ some k_ ≠ ((.slice d5 g3.length d3) : Value).ownBlock ∧ some k_ ≠ ((.slice a6 e2.length a5) : Value).ownBlock ∧ some k_ ≠ ((.slice a4 b1.length a3) : Value).ownBlock ∧ k_ ≠ b5 ∧ k_ ≠ a7 ∧ k_ ≠ a0 ∧ e8 k_ ∧ ¬ h4 k_) (.slice d0 d2.length c0) d2) ∧ Aside0 (Kd.R Kd.string 9 wc w.heap.size (fun k_ => some k_ ≠ ((.slice a9 a2.length a8) : Value).ownBlock ∧ some k_ ≠ ((.slice a6 e2.length a5) : Value).ownBlock ∧ e8 k_) (.slice a4 b1.length a3) b1) ∧ Aside0 (wc.heap[i8]? = some (.cells #[.int .i64 g9, .int .i64 h0, .string h1, (.slice i4 g4.length i5), (.slice i6 g5.length i7)] 25 (0, 0))) ∧ Aside0 (wc.heap[b5]? = some (.cells #[.int .i64 f4, .int .i64 f6, .string f8, (.slice e0 b4.length d6), (.slice a9 a2.length a8)] 29 (0, 0))) ∧ Aside0 (wc.heap[a7]? = some (.cells #[.int .i64 f9, .int .i64 g2, .string g6, (.slice d5 g3.length d3), (.slice a6 e2.length a5)] 29 (0, 0))) ∧ Aside0 (wc.heap[a0]? = some (.cells #[.int .i64 e6, .int .i64 e7, .string e9, (.slice d0 d2.length c0), (.slice a4 b1.length a3)] 29 (0, 0))) ∧ Aside0 (Below w.heap.size w wc))
             case first =>
              have H := P5.out; clear P5; replace H := zB0 H
              rcases H with ⟨rfl, H⟩ | ⟨rfl, H⟩
              ·exact absurd H (by simp)
              have H' := zA H; clear H
              go_wp2
              go_meet
              case rel => exact ⟨_, (by first | exact H' | (subst_vars; exact H')), ⟨by have := k4.out; have := k5.out; have := l7.out; have := n0.out; have := z4.out; have := G7.out; first | omega | exact Nat.le_refl _⟩, ⟨by (try simp only [b8]); (try simp only [b9]); (with_reducible repeat (first | apply Kd.S_alloc | apply Kd.S_drewN | apply Kd.S_drew)); exact e1.out⟩, ⟨by (try simp only [b8]); (try simp only [b9]); (with_reducible repeat (first | apply Kd.R_alloc | apply Kd.R_drewN | apply Kd.R_drew)); exact d7.out⟩, ⟨by (try simp only [b8]); (try simp only [b9]); (with_reducible repeat (first | apply Kd.S_alloc | apply Kd.S_drewN | apply Kd.S_drew)); exact e5.out⟩, ⟨by (try simp only [b8]); (try simp only [b9]); (with_reducible repeat (first | apply Kd.R_alloc | apply Kd.R_drewN | apply Kd.R_drew)); exact d8.out⟩, ⟨by (try simp only [b8]); (try simp only [b9]); (with_reducible repeat (first | apply Kd.S_alloc | apply Kd.S_drewN | apply Kd.S_drew)); exact d9.out⟩, ⟨by (try simp only [b8]); (try simp only [b9]); (with_reducible repeat (first | apply Kd.R_alloc | apply Kd.R_drewN | apply Kd.R_drew)); exact d1.out⟩, ⟨by (try simp only [b8]); (try simp only [b9]); (with_reducible repeat (first | refine blk_drewN ?_ _ | refine blk_drew ?_ | refine blk_alloc ?_ _)); exact b2.out⟩, ⟨by (try simp only [b8]); (try simp only [b9]); (with_reducible repeat (first | refine blk_drewN ?_ _ | refine blk_drew ?_ | refine blk_alloc ?_ _)); exact b3.out⟩, ⟨by (try simp only [b8]); (try simp only [b9]); (with_reducible repeat (first | refine blk_drewN ?_ _ | refine blk_drew ?_ | refine blk_alloc ?_ _)); exact b7.out⟩, ⟨by (try simp only [b8]); (try simp only [b9]); (with_reducible repeat (first | refine blk_drewN ?_ _ | refine blk_drew ?_ | refine blk_alloc ?_ _)); exact b6.out⟩, ⟨zW HB.out⟩⟩
             case rest =>
              clear P5
              try clear c1
              try clear c2
              try clear p2
              try clear c3
              try clear c4
              try clear c5
              try clear k0
              try clear l2
              try clear c6
              try clear c7
              try clear c8
              try clear c9
              try clear c10
              try clear k3
              try clear c11
              try clear c24
              try clear c32
              try clear c33
              try clear c40
              try clear c41
              try clear c42
              try clear c47
              try clear c48
              try clear c49
              try clear c50
              try clear c52
              try clear c53
              try clear c56
              try clear c57
              try clear c58
              try clear c60
              try clear c61
              try clear c65
              try clear c75
              try clear c78
              try clear c79
              try clear c80
              try clear c83
              try clear l8
              try clear c85
              try clear c86
              try clear c87
              try clear c88
              try clear c90
              try clear c91
              try clear c94
              try clear c95
              try clear c96
              try clear c98
              try clear c99
              try clear c103
              try clear F7 F8 F9 G0 G1 G2 G3 G4 G5 G6
              try clear n1 n2 n3 n4 n5 n6 n7 n8 n9 o0
              try clear o1 o2 o3 o4 o5 o6 o7 o8 o9 p0
              try clear p1 p3 p4 p5 p6 p7 p8 p9 q0 q1
              try clear q2 q3 q4 q5 q6 q7 q8 q9 r0 r1
              try clear r4 r5 r6 r7 r8 r9 t0 t1 t2 t3
              try clear t4 t5 t6 t7 t8 t9 v0 v1 v2 v3
              try clear v4 v5 v6 v7 v8 v9 x0 x1 x2 x3
              try clear x4 x5 x6 x7 x8 x9 y0 y1 y2 y3
              try clear y4 y5 y6 y7 y8 y9 z0 z1 z2 z3
              try clear B7 B8 B9 C0 C1 C2 C3 C4 C5 C6
              try clear C7 C8 C9 D0 D1 D2 D3 D4 D5 D6
              try clear m0 m1 m2 m3 m4 m5 m6 m7 m8 m9
              try clear D7 D8 D9 E0 E1 E2 E3 E4 E5 E6
              try clear E7 E8 E9 F0 F1 F2 F3 F4 F5 F6
              try clear p2
              obtain ⟨kq, HA, J0, e1, d7, e5, d8, d9, d1, b2, b3, b7, b6, HB⟩ := hcut
              cases kq with
              | zero => exact absurd HA.out (by simp [laws_FnExactAtKey.j6])
              | succ P6 =>
               have H := HA.out; clear HA; simp only [laws_FnExactAtKey.j6] at H; replace H := Option.bind_eq_some_iff.mp H; obtain ⟨⟨J1, g8, f2⟩, U4, H⟩ := H
               try dsimp only at H
               have a1f := zA U4; clear U4; replace H := Option.bind_eq_some_iff.mp H; obtain ⟨U5, U6, H⟩ := H
               try dsimp only at H
               have a1g := zA U6; clear U6; have P7 := zA H; clear H; have a4o := A3.out; have a4p := A2.out; have a4q := r3.out; have a4r := r2.out; have a4s := A5.out; have a4t := A4.out; obtain ⟨J8, J9, L0, L1, L2, L3, L4, L5, L6, L7⟩ := ze5 b6.out
               go_upto_if 76 with (first | ((with_reducible refine zq 11 ?_); refine zg (some 71) Try.func11 #[.agg #[.int .i64 e6, .int .i64 e7, .string e9, .slice d0 d2.length c0, .slice a4 b1.length a3], .int .i64 1] ?_; (with_reducible refine (laws_markVal.calls P6 e6 e7 e9 (fun k_ => ((some k_ ≠ (.slice e0 b4.length d6 : Value).ownBlock ∧ (some k_ ≠ (.slice a9 a2.length a8 : Value).ownBlock ∧ (some k_ ≠ (.slice d5 g3.length d3 : Value).ownBlock ∧ (some k_ ≠ (.slice a6 e2.length a5 : Value).ownBlock ∧ (some k_ ≠ (.slice a4 b1.length a3 : Value).ownBlock ∧ (k_ ≠ b5 ∧ (k_ ≠ a7 ∧ (k_ ≠ a0 ∧ (e8 k_ ∧ ¬ h4 k_))))))))) ∧ k_ ≠ i8) ∧ w.heap.size ≤ k_) (.slice d0 d2.length c0) d2 (fun k_ => some k_ = (.slice a4 b1.length a3 : Value).ownBlock) (.slice a4 b1.length a3) b1 1 J1 g8 f2 w _ ?s1 ?s2 ?s3 a1f.out).mono ?_); (case s1 => exact zW HB.out); (case s2 => exact Kd.S_mono (Kd.S_bound (Kd.S_types d9.out b2.out (by decide))) (fun _ hk => ⟨⟨hk.1, hk.2.1⟩, hk.1.1.2.2.2.2.1⟩)); (case s3 => exact Kd.R_tight rfl d1.out); rintro e a4v ⟨rfl, I8, I9, hb, hkp⟩; refine ⟨_, rfl, ?_⟩; replace e1 := zA (Kd.S_mono (ok' := fun k_ => some k_ ≠ (.slice a9 a2.length a8 : Value).ownBlock ∧ some k_ ≠ (.slice d5 g3.length d3 : Value).ownBlock ∧ some k_ ≠ (.slice a6 e2.length a5 : Value).ownBlock ∧ some k_ ≠ (.slice d0 d2.length c0 : Value).ownBlock ∧ some k_ ≠ (.slice a4 b1.length a3 : Value).ownBlock ∧ k_ ≠ b5 ∧ k_ ≠ a7 ∧ k_ ≠ a0 ∧ h6 k_ ∧ ¬ g0 k_ ∧ ¬ e8 k_ ∧ ¬ h4 k_) (Kd.S_keptB (e1.out) hkp (fun k_ hk_ hs_ => Or.elim hs_ (fun e_ => (fun e_ => (hk_.2.2.2.2.2.2.2.2.2.2.1) (e_.1.1.2.2.2.2.2.2.2.2.1)) e_) (fun e_ => (hk_.2.2.2.2.1) e_))) (fun k_ hk_ => ⟨hk_.1.1, hk_.1.2.1, hk_.1.2.2.1, hk_.1.2.2.2.1, hk_.1.2.2.2.2.1, hk_.1.2.2.2.2.2.1, hk_.1.2.2.2.2.2.2.1, hk_.1.2.2.2.2.2.2.2.1, hk_.1.2.2.2.2.2.2.2.2.1, hk_.1.2.2.2.2.2.2.2.2.2.1, hk_.1.2.2.2.2.2.2.2.2.2.2.1, hk_.1.2.2.2.2.2.2.2.2.2.2.2⟩)); replace d7 := zA (Kd.R_mono (ok' := fun k_ => some k_ ≠ (.slice a6 e2.length a5 : Value).ownBlock ∧ some k_ ≠ (.slice a4 b1.length a3 : Value).ownBlock ∧ h6 k_) (Kd.R_keptB ((Kd.R_tight2 rfl d7.out)) hkp (fun k_ hk_ hs_ => Or.elim hs_ (fun e_ => (fun e_ => (e_.1.1.2.1) (hk_.1)) e_) (fun e_ => (hk_.2.2.1) e_))) (fun k_ hk_ => ⟨hk_.1.2.1, hk_.1.2.2.1, hk_.1.2.2.2⟩)); replace e5 := zA (Kd.S_mono (ok' := fun k_ => some k_ ≠ (.slice e0 b4.length d6 : Value).ownBlock ∧ some k_ ≠ (.slice a9 a2.length a8 : Value).ownBlock ∧ some k_ ≠ (.slice a6 e2.length a5 : Value).ownBlock ∧ some k_ ≠ (.slice d0 d2.length c0 : Value).ownBlock ∧ some k_ ≠ (.slice a4 b1.length a3 : Value).ownBlock ∧ k_ ≠ b5 ∧ k_ ≠ a7 ∧ k_ ≠ a0 ∧ g0 k_ ∧ ¬ e8 k_ ∧ ¬ h4 k_) (Kd.S_keptB (e5.out) hkp (fun k_ hk_ hs_ => Or.elim hs_ (fun e_ => (fun e_ => (hk_.2.2.2.2.2.2.2.2.2.1) (e_.1.1.2.2.2.2.2.2.2.2.1)) e_) (fun e_ => (hk_.2.2.2.2.1) e_))) (fun k_ hk_ => ⟨hk_.1.1, hk_.1.2.1, hk_.1.2.2.1, hk_.1.2.2.2.1, hk_.1.2.2.2.2.1, hk_.1.2.2.2.2.2.1, hk_.1.2.2.2.2.2.2.1, hk_.1.2.2.2.2.2.2.2.1, hk_.1.2.2.2.2.2.2.2.2.1, hk_.1.2.2.2.2.2.2.2.2.2.1, hk_.1.2.2.2.2.2.2.2.2.2.2⟩)); replace d8 := zA (Kd.R_mono (ok' := fun k_ => some k_ ≠ (.slice a9 a2.length a8 : Value).ownBlock ∧ some k_ ≠ (.slice a4 b1.length a3 : Value).ownBlock ∧ g0 k_) (Kd.R_keptB ((Kd.R_tight2 rfl d8.out)) hkp (fun k_ hk_ hs_ => Or.elim hs_ (fun e_ => (fun e_ => (e_.1.1.2.2.2.1) (hk_.1)) e_) (fun e_ => (hk_.2.2.1) e_))) (fun k_ hk_ => ⟨hk_.1.2.1, hk_.1.2.2.1, hk_.1.2.2.2⟩)); replace d9 := zA (Kd.S_mono (ok' := fun k_ => (some k_ ≠ (.slice e0 b4.length d6 : Value).ownBlock ∧ (some k_ ≠ (.slice a9 a2.length a8 : Value).ownBlock ∧ (some k_ ≠ (.slice d5 g3.length d3 : Value).ownBlock ∧ (some k_ ≠ (.slice a6 e2.length a5 : Value).ownBlock ∧ (some k_ ≠ (.slice a4 b1.length a3 : Value).ownBlock ∧ (k_ ≠ b5 ∧ (k_ ≠ a7 ∧ (k_ ≠ a0 ∧ (e8 k_ ∧ ¬ h4 k_)))))))))) I8 (fun k_ hk_ => ⟨hk_.1.1.1, ⟨hk_.1.1.2.1, ⟨hk_.1.1.2.2.1, ⟨hk_.1.1.2.2.2.1, ⟨hk_.1.1.2.2.2.2.1, ⟨hk_.1.1.2.2.2.2.2.1, ⟨hk_.1.1.2.2.2.2.2.2.1, ⟨hk_.1.1.2.2.2.2.2.2.2.1, ⟨hk_.1.1.2.2.2.2.2.2.2.2.1, hk_.1.1.2.2.2.2.2.2.2.2.2⟩⟩⟩⟩⟩⟩⟩⟩⟩)); replace b2 := zA (blk_kept (zK b2.out) hkp (fun hs_ => Or.elim hs_ (fun e_ => (fun e_ => (e_.1.2) rfl) e_) (fun e_ => (fun e_ => (Kd.R_ne d1.out b2.out (by decide)) e_) e_))); replace b3 := zA (blk_kept (zK b3.out) hkp (fun hs_ => Or.elim hs_ (fun e_ => (fun e_ => (e_.1.1.2.2.2.2.2.1) rfl) e_) (fun e_ => (fun e_ => (Kd.R_ne d1.out b3.out (by decide)) e_) e_))); replace b7 := zA (blk_kept (zK b7.out) hkp (fun hs_ => Or.elim hs_ (fun e_ => (fun e_ => (e_.1.1.2.2.2.2.2.2.1) rfl) e_) (fun e_ => (fun e_ => (Kd.R_ne d1.out b7.out (by decide)) e_) e_))); replace b6 := zA (blk_kept (zK b6.out) hkp (fun hs_ => Or.elim hs_ (fun e_ => (fun e_ => (e_.1.1.2.2.2.2.2.2.2.1) rfl) e_) (fun e_ => (fun e_ => (Kd.R_ne d1.out b6.out (by decide)) e_) e_))); replace d1 := zA (Kd.R_reok rfl I9 (fun k_ e_ => d1.out.1 k_ e_)); replace HB := zA (hb); (try clear hb); (try clear hkp); (try clear I8); (try clear I9); obtain ⟨L8, L9, M0, M1, M2, M3, M4, M5, M6, M7⟩ := ze5 b6.out) | ((with_reducible refine gate_callee (f := 12) rfl ?_); refine goesL_ (some 74) rfl rfl Try.func12 (by kernel_rfl) rfl #[.agg #[.int .i64 e6, .int .i64 e7, .string e9, .slice d0 g8.length c0, .slice a4 f2.length a3], .int .i64 1] rfl (by (try simp only [List.map_toArray, List.map_cons, List.map_nil]); first | done | (rw [show g8.length = d2.length from (Kd.S_reads' d9.out).1.symm, show f2.length = b1.length from (Kd.R_reads' d1.out).1.symm] <;> rfl) | rfl | (simp only [List.length_drop, List.length_take]; rfl)) ?_; (with_reducible refine (laws_heldVal.calls P6 e6 e7 e9 _ _ g8 _ _ f2 1 U5 _ ?s1 ?s2 ?s3 ?s4 a1g.out).mono ?_); (case s1 => exact zC (Kd.S_reads' d9.out).2.2); (case s2 => rw [show g8.length = d2.length from (Kd.S_reads' d9.out).1.symm]; exact (Kd.S_reads' d9.out).2.1); (case s3 => exact zC (Kd.R_reads' d1.out).2.2); (case s4 => rw [show f2.length = b1.length from (Kd.R_reads' d1.out).1.symm]; exact (Kd.R_reads' d1.out).2.1); rintro e a4x ⟨rfl, hb⟩; refine ⟨_, rfl, ?_⟩; replace e1 := zA (Kd.S_below (by (with_reducible repeat (first | apply Kd.S_alloc | apply Kd.S_drewN | apply Kd.S_drew)); exact e1.out) hb); replace d7 := zr d7 hb; replace e5 := zA (Kd.S_below (by (with_reducible repeat (first | apply Kd.S_alloc | apply Kd.S_drewN | apply Kd.S_drew)); exact e5.out) hb); replace d8 := zr d8 hb; replace d9 := zA (Kd.S_below (by (with_reducible repeat (first | apply Kd.S_alloc | apply Kd.S_drewN | apply Kd.S_drew)); exact d9.out) hb); replace d1 := zr d1 hb; replace b2 := zb b2 hb; replace b3 := zb b3 hb; replace b7 := zb b7 hb; replace b6 := zb b6 hb; replace HB := zh HB hb; (try clear hb)))
               (try simp only [Act.put, zT])
               go_cut [] (fun wc => ∃ (kq : Nat), Aside0 (laws_FnExactAtKey.j7 kq a1 l4 J1 U5 g9 h0 h1 g4 g5 f4 f6 f8 b4 a2 e6 e7 e9 g8 f2 = some r) ∧ Aside0 (kq ≤ P6) ∧ Aside0 (Kd.S k29 29 wc w.heap.size (fun k_ => some k_ ≠ ((.slice a9 a2.length a8) : Value).ownBlock ∧ some k_ ≠ ((.slice d5 g3.length d3) : Value).ownBlock ∧ some k_ ≠ ((.slice a6 e2.length a5) : Value).ownBlock ∧ some k_ ≠ ((.slice d0 d2.length c0) : Value).ownBlock ∧ some k_ ≠ ((.slice a4 b1.length a3) : Value).ownBlock ∧ k_ ≠ b5 ∧ k_ ≠ a7 ∧ k_ ≠ a0 ∧ h6 k_ ∧ ¬ g0 k_ ∧ ¬ e8 k_ ∧ ¬ h4 k_) (.slice e0 b4.length d6) b4) ∧ Aside0 (Kd.R Kd.string 9 wc w.heap.size (fun k_ => some k_ ≠ ((.slice a6 e2.length a5) : Value).ownBlock ∧ some k_ ≠ ((.slice a4 b1.length a3) : Value).ownBlock ∧ h6 k_) (.slice a9 a2.length a8) a2) ∧ Aside0 (Kd.S k29 29 wc w.heap.size (fun k_ => some k_ ≠ ((.slice e0 b4.length d6) : Value).ownBlock ∧ some k_ ≠ ((.slice a9 a2.length a8) : Value).ownBlock ∧ some k_ ≠ ((.slice a6 e2.length a5) : Value).ownBlock ∧ some k_ ≠ ((.slice d0 d2.length c0) : Value).ownBlock ∧ some k_ ≠ ((.slice a4 b1.length a3) : Value).ownBlock ∧ k_ ≠ b5 ∧ k_ ≠ a7 ∧ k_ ≠ a0 ∧ g0 k_ ∧ ¬ e8 k_ ∧ ¬ h4 k_) (.slice d5 g3.length d3) g3) ∧ Aside0 (Kd.R Kd.string 9 wc w.heap.size (fun k_ => some k_ ≠ ((.slice a9 a2.length a8) : Value).ownBlock ∧ some k_ ≠ ((.slice a4 b1.length a3) : Value).ownBlock ∧ g0 k_) (.slice a6 e2.length a5) e2) ∧ Aside0 (Kd.S k29 29 wc w.heap.size (fun k_ => some k_ ≠ ((.slice e0 b4.length d6) : Value).ownBlock ∧ some k_ ≠ ((.slice a9 a2.length a8) : Value).ownBlock ∧ some k_ ≠ ((.slice d5 g3.length d3) : Value).ownBlock ∧ some k_ ≠ ((.slice a6 e2.length a5) : Value).ownBlock ∧ some k_ ≠ ((.slice a4 b1.length a3) : Value).ownBlock ∧ k_ ≠ b5 ∧ k_ ≠ a7 ∧ k_ ≠ a0 ∧ e8 k_ ∧ ¬ h4 k_) (.slice d0 d2.length c0) g8) ∧ Aside0 (Kd.R Kd.string 9 wc w.heap.size (fun k_ => some k_ ≠ ((.slice a9 a2.length a8) : Value).ownBlock ∧ some k_ ≠ ((.slice a6 e2.length a5) : Value).ownBlock ∧ e8 k_) (.slice a4 b1.length a3) f2) ∧ Aside0 (wc.heap[i8]? = some (.cells #[.int .i64 g9, .int .i64 h0, .string h1, (.slice i4 g4.length i5), (.slice i6 g5.length i7)] 25 (0, 0))) ∧ Aside0 (wc.heap[b5]? = some (.cells #[.int .i64 f4, .int .i64 f6, .string f8, (.slice e0 b4.length d6), (.slice a9 a2.length a8)] 29 (0, 0))) ∧ Aside0 (wc.heap[a7]? = some (.cells #[.int .i64 f9, .int .i64 g2, .string g6, (.slice d5 g3.length d3), (.slice a6 e2.length a5)] 29 (0, 0))) ∧ Aside0 (wc.heap[a0]? = some (.cells #[.int .i64 e6, .int .i64 e7, .string e9, (.slice d0 d2.length c0), (.slice a4 b1.length a3)] 29 (0, 0))) ∧ Aside0 (Below w.heap.size w wc))
               case first =>
                have H := P7.out; clear P7; replace H := zI1 H
                rcases H with ⟨A9, H⟩ | ⟨A9, H⟩
                ·exact absurd H (by simp)
                have G8 := decide_eq_false A9; clear A9
                (first | rw [G8] | (simp only [i64_w, i32_w]; rw [G8]) | skip)
                have H' := zA H; clear H
                go_wp2
                go_meet
                case rel => exact ⟨_, (by first | exact H' | (subst_vars; exact H')), ⟨by have := k4.out; have := k5.out; have := l7.out; have := n0.out; have := z4.out; have := G7.out; have := J0.out; first | omega | exact Nat.le_refl _⟩, ⟨by (try simp only [b8]); (try simp only [b9]); (with_reducible repeat (first | apply Kd.S_alloc | apply Kd.S_drewN | apply Kd.S_drew)); exact e1.out⟩, ⟨by (try simp only [b8]); (try simp only [b9]); (with_reducible repeat (first | apply Kd.R_alloc | apply Kd.R_drewN | apply Kd.R_drew)); exact d7.out⟩, ⟨by (try simp only [b8]); (try simp only [b9]); (with_reducible repeat (first | apply Kd.S_alloc | apply Kd.S_drewN | apply Kd.S_drew)); exact e5.out⟩, ⟨by (try simp only [b8]); (try simp only [b9]); (with_reducible repeat (first | apply Kd.R_alloc | apply Kd.R_drewN | apply Kd.R_drew)); exact d8.out⟩, ⟨by (try simp only [b8]); (try simp only [b9]); (with_reducible repeat (first | apply Kd.S_alloc | apply Kd.S_drewN | apply Kd.S_drew)); exact d9.out⟩, ⟨by (try simp only [b8]); (try simp only [b9]); (with_reducible repeat (first | apply Kd.R_alloc | apply Kd.R_drewN | apply Kd.R_drew)); exact d1.out⟩, ⟨by (try simp only [b8]); (try simp only [b9]); (with_reducible repeat (first | refine blk_drewN ?_ _ | refine blk_drew ?_ | refine blk_alloc ?_ _)); exact b2.out⟩, ⟨by (try simp only [b8]); (try simp only [b9]); (with_reducible repeat (first | refine blk_drewN ?_ _ | refine blk_drew ?_ | refine blk_alloc ?_ _)); exact b3.out⟩, ⟨by (try simp only [b8]); (try simp only [b9]); (with_reducible repeat (first | refine blk_drewN ?_ _ | refine blk_drew ?_ | refine blk_alloc ?_ _)); exact b7.out⟩, ⟨by (try simp only [b8]); (try simp only [b9]); (with_reducible repeat (first | refine blk_drewN ?_ _ | refine blk_drew ?_ | refine blk_alloc ?_ _)); exact b6.out⟩, ⟨zW HB.out⟩⟩
               case rest =>
                clear P7
                try clear c1
                try clear c2
                try clear p2
                try clear c3
                try clear c4
                try clear c5
                try clear k0
                try clear l2
                try clear c6
                try clear c7
                try clear c8
                try clear c9
                try clear c10
                try clear k3
                try clear c11
                try clear c12
                try clear c24
                try clear c32
                try clear c33
                try clear c40
                try clear c41
                try clear c42
                try clear c47
                try clear c48
                try clear c49
                try clear c50
                try clear c52
                try clear c53
                try clear c56
                try clear c57
                try clear c58
                try clear c60
                try clear c61
                try clear c65
                try clear c75
                try clear c78
                try clear c79
                try clear c80
                try clear c83
                try clear l8
                try clear c85
                try clear c86
                try clear c87
                try clear c88
                try clear c90
                try clear c91
                try clear c94
                try clear c95
                try clear c96
                try clear c98
                try clear c99
                try clear c103
                try clear c107
                try clear c108
                try clear c109
                try clear A9
                try clear G8
                try clear F7 F8 F9 G0 G1 G2 G3 G4 G5 G6
                try clear J8 J9 L0 L1 L2 L3 L4 L5 L6 L7
                try clear L8 L9 M0 M1 M2 M3 M4 M5 M6 M7
                try clear n1 n2 n3 n4 n5 n6 n7 n8 n9 o0
                try clear o1 o2 o3 o4 o5 o6 o7 o8 o9 p0
                try clear p1 p3 p4 p5 p6 p7 p8 p9 q0 q1
                try clear q2 q3 q4 q5 q6 q7 q8 q9 r0 r1
                try clear r4 r5 r6 r7 r8 r9 t0 t1 t2 t3
                try clear t4 t5 t6 t7 t8 t9 v0 v1 v2 v3
                try clear v4 v5 v6 v7 v8 v9 x0 x1 x2 x3
                try clear x4 x5 x6 x7 x8 x9 y0 y1 y2 y3
                try clear y4 y5 y6 y7 y8 y9 z0 z1 z2 z3
                try clear B7 B8 B9 C0 C1 C2 C3 C4 C5 C6
                try clear C7 C8 C9 D0 D1 D2 D3 D4 D5 D6
                try clear m0 m1 m2 m3 m4 m5 m6 m7 m8 m9
                try clear D7 D8 D9 E0 E1 E2 E3 E4 E5 E6
                try clear E7 E8 E9 F0 F1 F2 F3 F4 F5 F6
                try clear p2
                obtain ⟨kq, HA, M8, e1, d7, e5, d8, d9, d1, b2, b3, b7, b6, HB⟩ := hcut; have e3 := (Kd.S_reads' d9.out).1; rw [e3] at d9
                (try simp only [e3])
                (try simp only [e3] at b2)
                (try simp only [e3] at b3)
                (try simp only [e3] at b7)
                (try simp only [e3] at b6)
                (try simp only [e3] at e1)
                (try simp only [e3] at d7)
                (try simp only [e3] at e5)
                (try simp only [e3] at d8)
                (try simp only [e3] at d1)
                have e4 := (Kd.R_reads' d1.out).1; rw [e4] at d1
                (try simp only [e4])
                (try simp only [e4] at b2)
                (try simp only [e4] at b3)
                (try simp only [e4] at b7)
                (try simp only [e4] at b6)
                (try simp only [e4] at e1)
                (try simp only [e4] at d7)
                (try simp only [e4] at e5)
                (try simp only [e4] at d8)
                (try simp only [e4] at d9)
                cases kq with
                | zero => exact absurd HA.out (by simp [laws_FnExactAtKey.j7])
                | succ a1h =>
                 have H := HA.out; clear HA; simp only [laws_FnExactAtKey.j7] at H; have P8 := zA H; clear H
                 go_upto_if 79 with (fail)
                 go_cut [] (fun wc => ∃ (kq : Nat), Aside0 (laws_FnExactAtKey.j8 kq a1 l4 J1 g9 h0 h1 g4 g5 f4 f6 f8 b4 a2 e6 e7 e9 g8 f2 = some r) ∧ Aside0 (kq ≤ a1h) ∧ Aside0 (Kd.S k29 29 wc w.heap.size (fun k_ => some k_ ≠ ((.slice a9 a2.length a8) : Value).ownBlock ∧ some k_ ≠ ((.slice d5 g3.length d3) : Value).ownBlock ∧ some k_ ≠ ((.slice a6 e2.length a5) : Value).ownBlock ∧ some k_ ≠ ((.slice d0 g8.length c0) : Value).ownBlock ∧ some k_ ≠ ((.slice a4 f2.length a3) : Value).ownBlock ∧ k_ ≠ b5 ∧ k_ ≠ a7 ∧ k_ ≠ a0 ∧ h6 k_ ∧ ¬ g0 k_ ∧ ¬ e8 k_ ∧ ¬ h4 k_) (.slice e0 b4.length d6) b4) ∧ Aside0 (Kd.R Kd.string 9 wc w.heap.size (fun k_ => some k_ ≠ ((.slice a6 e2.length a5) : Value).ownBlock ∧ some k_ ≠ ((.slice a4 f2.length a3) : Value).ownBlock ∧ h6 k_) (.slice a9 a2.length a8) a2) ∧ Aside0 (Kd.S k29 29 wc w.heap.size (fun k_ => some k_ ≠ ((.slice e0 b4.length d6) : Value).ownBlock ∧ some k_ ≠ ((.slice a9 a2.length a8) : Value).ownBlock ∧ some k_ ≠ ((.slice a6 e2.length a5) : Value).ownBlock ∧ some k_ ≠ ((.slice d0 g8.length c0) : Value).ownBlock ∧ some k_ ≠ ((.slice a4 f2.length a3) : Value).ownBlock ∧ k_ ≠ b5 ∧ k_ ≠ a7 ∧ k_ ≠ a0 ∧ g0 k_ ∧ ¬ e8 k_ ∧ ¬ h4 k_) (.slice d5 g3.length d3) g3) ∧ Aside0 (Kd.R Kd.string 9 wc w.heap.size (fun k_ => some k_ ≠ ((.slice a9 a2.length a8) : Value).ownBlock ∧ some k_ ≠ ((.slice a4 f2.length a3) : Value).ownBlock ∧ g0 k_) (.slice a6 e2.length a5) e2) ∧ Aside0 (Kd.S k29 29 wc w.heap.size (fun k_ => some k_ ≠ ((.slice e0 b4.length d6) : Value).ownBlock ∧ some k_ ≠ ((.slice a9 a2.length a8) : Value).ownBlock ∧ some k_ ≠ ((.slice d5 g3.length d3) : Value).ownBlock ∧ some k_ ≠ ((.slice a6 e2.length a5) : Value).ownBlock ∧ some k_ ≠ ((.slice a4 f2.length a3) : Value).ownBlock ∧ k_ ≠ b5 ∧ k_ ≠ a7 ∧ k_ ≠ a0 ∧ e8 k_ ∧ ¬ h4 k_) (.slice d0 g8.length c0) g8) ∧ Aside0 (Kd.R Kd.string 9 wc w.heap.size (fun k_ => some k_ ≠ ((.slice a9 a2.length a8) : Value).ownBlock ∧ some k_ ≠ ((.slice a6 e2.length a5) : Value).ownBlock ∧ e8 k_) (.slice a4 f2.length a3) f2) ∧ Aside0 (wc.heap[i8]? = some (.cells #[.int .i64 g9, .int .i64 h0, .string h1, (.slice i4 g4.length i5), (.slice i6 g5.length i7)] 25 (0, 0))) ∧ Aside0 (wc.heap[b5]? = some (.cells #[.int .i64 f4, .int .i64 f6, .string f8, (.slice e0 b4.length d6), (.slice a9 a2.length a8)] 29 (0, 0))) ∧ Aside0 (wc.heap[a7]? = some (.cells #[.int .i64 f9, .int .i64 g2, .string g6, (.slice d5 g3.length d3), (.slice a6 e2.length a5)] 29 (0, 0))) ∧ Aside0 (wc.heap[a0]? = some (.cells #[.int .i64 e6, .int .i64 e7, .string e9, (.slice d0 g8.length c0), (.slice a4 f2.length a3)] 29 (0, 0))) ∧ Aside0 (Below w.heap.size w wc))
                 case first =>
                  have H := P8.out; clear P8; replace H := zC0 H; obtain ⟨G9, H⟩ := H; have J2 := beq_iff_eq.mpr G9; have P9 := bne_eq_false_iff_eq.mpr G9; clear G9
                  (first | rw [J2] | (simp only [i64_w, i32_w]; rw [J2]) | skip)
                  have H' := zA H; clear H
                  go_wp2
                  go_meet
                  case rel => exact ⟨_, (by first | exact H' | (subst_vars; exact H')), ⟨by have := k4.out; have := k5.out; have := l7.out; have := n0.out; have := z4.out; have := G7.out; have := J0.out; have := M8.out; first | omega | exact Nat.le_refl _⟩, ⟨by (try simp only [b8]); (try simp only [b9]); (try simp only [e3]); (try simp only [e4]); (with_reducible repeat (first | apply Kd.S_alloc | apply Kd.S_drewN | apply Kd.S_drew)); exact e1.out⟩, ⟨by (try simp only [b8]); (try simp only [b9]); (try simp only [e3]); (try simp only [e4]); (with_reducible repeat (first | apply Kd.R_alloc | apply Kd.R_drewN | apply Kd.R_drew)); exact d7.out⟩, ⟨by (try simp only [b8]); (try simp only [b9]); (try simp only [e3]); (try simp only [e4]); (with_reducible repeat (first | apply Kd.S_alloc | apply Kd.S_drewN | apply Kd.S_drew)); exact e5.out⟩, ⟨by (try simp only [b8]); (try simp only [b9]); (try simp only [e3]); (try simp only [e4]); (with_reducible repeat (first | apply Kd.R_alloc | apply Kd.R_drewN | apply Kd.R_drew)); exact d8.out⟩, ⟨by (try simp only [b8]); (try simp only [b9]); (try simp only [e3]); (try simp only [e4]); (with_reducible repeat (first | apply Kd.S_alloc | apply Kd.S_drewN | apply Kd.S_drew)); exact d9.out⟩, ⟨by (try simp only [b8]); (try simp only [b9]); (try simp only [e3]); (try simp only [e4]); (with_reducible repeat (first | apply Kd.R_alloc | apply Kd.R_drewN | apply Kd.R_drew)); exact d1.out⟩, ⟨by (try simp only [b8]); (try simp only [b9]); (try simp only [e3]); (try simp only [e4]); (with_reducible repeat (first | refine blk_drewN ?_ _ | refine blk_drew ?_ | refine blk_alloc ?_ _)); exact b2.out⟩, ⟨by (try simp only [b8]); (try simp only [b9]); (try simp only [e3]); (try simp only [e4]); (with_reducible repeat (first | refine blk_drewN ?_ _ | refine blk_drew ?_ | refine blk_alloc ?_ _)); exact b3.out⟩, ⟨by (try simp only [b8]); (try simp only [b9]); (try simp only [e3]); (try simp only [e4]); (with_reducible repeat (first | refine blk_drewN ?_ _ | refine blk_drew ?_ | refine blk_alloc ?_ _)); exact b7.out⟩, ⟨by (try simp only [b8]); (try simp only [b9]); (try simp only [e3]); (try simp only [e4]); (with_reducible repeat (first | refine blk_drewN ?_ _ | refine blk_drew ?_ | refine blk_alloc ?_ _)); exact b6.out⟩, ⟨zW HB.out⟩⟩
                 case rest =>
                  clear P8
                  try clear c1
                  try clear c2
                  try clear p2
                  try clear c3
                  try clear c4
                  try clear c5
                  try clear k0
                  try clear l2
                  try clear c6
                  try clear c7
                  try clear c8
                  try clear c9
                  try clear c10
                  try clear k3
                  try clear c11
                  try clear c12
                  try clear c24
                  try clear c32
                  try clear c33
                  try clear c40
                  try clear c41
                  try clear c42
                  try clear c47
                  try clear c48
                  try clear c49
                  try clear c50
                  try clear c52
                  try clear c53
                  try clear c56
                  try clear c57
                  try clear c58
                  try clear c60
                  try clear c61
                  try clear c65
                  try clear c75
                  try clear c78
                  try clear c79
                  try clear c80
                  try clear c83
                  try clear l8
                  try clear c85
                  try clear c86
                  try clear c87
                  try clear c88
                  try clear c90
                  try clear c91
                  try clear c94
                  try clear c95
                  try clear c96
                  try clear c98
                  try clear c99
                  try clear c103
                  try clear c107
                  try clear c108
                  try clear c109
                  try clear A9
                  try clear G8
                  try clear G9
                  try clear J2
                  try clear P9
                  try clear F7 F8 F9 G0 G1 G2 G3 G4 G5 G6
                  try clear J8 J9 L0 L1 L2 L3 L4 L5 L6 L7
                  try clear L8 L9 M0 M1 M2 M3 M4 M5 M6 M7
                  try clear n1 n2 n3 n4 n5 n6 n7 n8 n9 o0
                  try clear o1 o2 o3 o4 o5 o6 o7 o8 o9 p0
                  try clear p1 p3 p4 p5 p6 p7 p8 p9 q0 q1
                  try clear q2 q3 q4 q5 q6 q7 q8 q9 r0 r1
                  try clear r4 r5 r6 r7 r8 r9 t0 t1 t2 t3
                  try clear t4 t5 t6 t7 t8 t9 v0 v1 v2 v3
                  try clear v4 v5 v6 v7 v8 v9 x0 x1 x2 x3
                  try clear x4 x5 x6 x7 x8 x9 y0 y1 y2 y3
                  try clear y4 y5 y6 y7 y8 y9 z0 z1 z2 z3
                  try clear B7 B8 B9 C0 C1 C2 C3 C4 C5 C6
                  try clear C7 C8 C9 D0 D1 D2 D3 D4 D5 D6
                  try clear m0 m1 m2 m3 m4 m5 m6 m7 m8 m9
                  try clear D7 D8 D9 E0 E1 E2 E3 E4 E5 E6
                  try clear E7 E8 E9 F0 F1 F2 F3 F4 F5 F6
                  try clear p2
                  obtain ⟨kq, HA, Q0, e1, d7, e5, d8, d9, d1, b2, b3, b7, b6, HB⟩ := hcut
                  cases kq with
                  | zero => exact absurd HA.out (by simp [laws_FnExactAtKey.j8])
                  | succ J3 =>
                   have H := HA.out; clear HA; simp only [laws_FnExactAtKey.j8] at H; replace H := Option.bind_eq_some_iff.mp H; obtain ⟨⟨Q1, Q2, Q3, B0, l9⟩, U7, H⟩ := H
                   try dsimp only at H
                   have a1i := zA U7; clear U7; replace H := Option.bind_eq_some_iff.mp H; obtain ⟨⟨h5, h7, h9, g1, f3, U8⟩, U9, H⟩ := H
                   try dsimp only at H
                   have a1j := zA U9; clear U9; have Q4 := zA H; clear H; have a4y := z8.out; have a4z := z9.out; have a50 := O0.out; have a51 := O1.out; have a52 := A2.out; have a53 := A3.out; obtain ⟨V0, V1, V2, V3, V4, V5, V6, V7, V8, V9⟩ := ze5 b2.out
                   go_upto_region 27 with (first | ((with_reducible refine zq 8 ?_); refine zg (some 82) Try.func8 #[.agg #[.int .i64 g9, .int .i64 h0, .string h1, .slice i4 g4.length i5, .slice i6 g5.length i7]] ?_; (with_reducible refine (laws_toVal.calls J3 g9 h0 h1 _ _ g4 _ _ g5 Q1 Q2 Q3 B0 l9 _ ?s1 ?s2 ?s3 ?s4 a1i.out).mono ?_); (case s1 => exact zC (Kd.C_below I1.out HB.out)); (case s2 => exact I2.out); (case s3 => exact zC (Kd.C_below I3.out HB.out)); (case s4 => exact I4.out); rintro e a54 ⟨a55, a56, rfl, g7, f0, hb⟩; refine ⟨_, rfl, ?_⟩; obtain ⟨A7, I0⟩ := Deep.named hb; have l3 := zA (Kd.S_lower (Kd.S_newB (Kd.S_newB (Kd.S_newB (Kd.S_new' (Kd.S_new' (Kd.S_new' (Kd.S_new' (Kd.S_new' (Kd.S_new' (Deep.S_newT I0 g7) (Kd.S_lt (by (with_reducible repeat (first | apply Kd.S_alloc | apply Kd.S_drewN | apply Kd.S_drew)); exact e1.out))) (Kd.R_lt (zR d7.out))) (Kd.S_lt (by (with_reducible repeat (first | apply Kd.S_alloc | apply Kd.S_drewN | apply Kd.S_drew)); exact e5.out))) (Kd.R_lt (zR d8.out))) (Kd.S_lt (by (with_reducible repeat (first | apply Kd.S_alloc | apply Kd.S_drewN | apply Kd.S_drew)); exact d9.out))) (Kd.R_lt (zR d1.out))) (g := b5) (o := .cells #[.int .i64 f4, .int .i64 f6, .string f8, .slice e0 b4.length d6, .slice a9 a2.length a8] 29 (0, 0)) (zK b3.out)) (g := a7) (o := .cells #[.int .i64 f9, .int .i64 g2, .string g6, .slice d5 g3.length d3, .slice a6 e2.length a5] 29 (0, 0)) (zK b7.out)) (g := a0) (o := .cells #[.int .i64 e6, .int .i64 e7, .string e9, .slice d0 g8.length c0, .slice a4 f2.length a3] 29 (0, 0)) (zK b6.out)) (below_size (zW HB.out))); replace e1 := zA (Deep.S_oldT I0 (Kd.S_told (Kd.S_told (Kd.S_old (by (with_reducible repeat (first | apply Kd.S_alloc | apply Kd.S_drewN | apply Kd.S_drew)); exact e1.out) hb) (Kd.S_base g7)) (Kd.R_base f0))); replace e5 := zA (Deep.S_oldT I0 (Kd.S_told (Kd.S_told (Kd.S_old (by (with_reducible repeat (first | apply Kd.S_alloc | apply Kd.S_drewN | apply Kd.S_drew)); exact e5.out) hb) (Kd.S_base g7)) (Kd.R_base f0))); replace d9 := zA (Deep.S_oldT I0 (Kd.S_told (Kd.S_told (Kd.S_old (by (with_reducible repeat (first | apply Kd.S_alloc | apply Kd.S_drewN | apply Kd.S_drew)); exact d9.out) hb) (Kd.S_base g7)) (Kd.R_base f0))); have k9 := zA (Kd.R_lower (Kd.R_new' (Kd.R_new' (Kd.R_new' (Deep.R_newT I0 f0) (Kd.R_lt (zR d7.out))) (Kd.R_lt (zR d8.out))) (Kd.R_lt (zR d1.out))) (below_size (zW HB.out))); replace d7 := zA (Kd.R_elder' (zR d7.out) (Kd.R_base f0) hb); replace d8 := zA (Kd.R_elder' (zR d8.out) (Kd.R_base f0) hb); replace d1 := zA (Kd.R_elder' (zR d1.out) (Kd.R_base f0) hb); replace b2 := zb b2 hb; replace b3 := zb b3 hb; replace b7 := zb b7 hb; replace b6 := zb b6 hb; replace HB := zh HB hb; clear I0; (try clear hb g7 f0); obtain ⟨J4, J5, a1k⟩ := Kd.S_slice l3.out; subst a1k; obtain ⟨z5, z6, a1l⟩ := Kd.R_slice k9.out; subst a1l) | ((with_reducible refine zq 9 ?_); refine zg (some 84) Try.func9 #[.agg #[.int .i64 Q1, .int .i64 Q2, .string Q3, .slice J4 B0.length J5, .slice z5 l9.length z6], .string a1] ?_; (with_reducible refine (impl_AtKey.calls J3 Q1 Q2 Q3 _ _ B0 _ _ l9 a1 h5 h7 h9 g1 f3 U8 _ ?s1 ?s2 ?s3 ?s4 a1j.out).mono ?_); (case s1 => exact zC (Kd.S_reads' l3.out).2.2); (case s2 => exact (Kd.S_reads' l3.out).2.1); (case s3 => exact zC (Kd.R_reads' k9.out).2.2); (case s4 => exact (Kd.R_reads' k9.out).2.1); rintro e a57 ⟨a58, a59, rfl, g7, f0, hb⟩; refine ⟨_, rfl, ?_⟩; obtain ⟨k2, B1⟩ := Deep.named hb; have l0 := zA (Kd.S_lower (Kd.S_newB (Kd.S_newB (Kd.S_newB (Kd.S_new' (Kd.S_new' (Kd.S_new' (Kd.S_new' (Kd.S_new' (Kd.S_new' (Kd.S_new' (Kd.S_new' (Deep.S_newT B1 g7) (Kd.S_lt (by (with_reducible repeat (first | apply Kd.S_alloc | apply Kd.S_drewN | apply Kd.S_drew)); exact e1.out))) (Kd.R_lt (zR d7.out))) (Kd.S_lt (by (with_reducible repeat (first | apply Kd.S_alloc | apply Kd.S_drewN | apply Kd.S_drew)); exact e5.out))) (Kd.R_lt (zR d8.out))) (Kd.S_lt (by (with_reducible repeat (first | apply Kd.S_alloc | apply Kd.S_drewN | apply Kd.S_drew)); exact d9.out))) (Kd.R_lt (zR d1.out))) (Kd.S_lt (by (with_reducible repeat (first | apply Kd.S_alloc | apply Kd.S_drewN | apply Kd.S_drew)); exact l3.out))) (Kd.R_lt (zR k9.out))) (g := b5) (o := .cells #[.int .i64 f4, .int .i64 f6, .string f8, .slice e0 b4.length d6, .slice a9 a2.length a8] 29 (0, 0)) (zK b3.out)) (g := a7) (o := .cells #[.int .i64 f9, .int .i64 g2, .string g6, .slice d5 g3.length d3, .slice a6 e2.length a5] 29 (0, 0)) (zK b7.out)) (g := a0) (o := .cells #[.int .i64 e6, .int .i64 e7, .string e9, .slice d0 g8.length c0, .slice a4 f2.length a3] 29 (0, 0)) (zK b6.out)) (below_size (zW HB.out))); replace e1 := zA (Deep.S_oldT B1 (Kd.S_told (Kd.S_told (Kd.S_old (by (with_reducible repeat (first | apply Kd.S_alloc | apply Kd.S_drewN | apply Kd.S_drew)); exact e1.out) hb) (Kd.S_base g7)) (Kd.R_base f0))); replace e5 := zA (Deep.S_oldT B1 (Kd.S_told (Kd.S_told (Kd.S_old (by (with_reducible repeat (first | apply Kd.S_alloc | apply Kd.S_drewN | apply Kd.S_drew)); exact e5.out) hb) (Kd.S_base g7)) (Kd.R_base f0))); replace d9 := zA (Deep.S_oldT B1 (Kd.S_told (Kd.S_told (Kd.S_old (by (with_reducible repeat (first | apply Kd.S_alloc | apply Kd.S_drewN | apply Kd.S_drew)); exact d9.out) hb) (Kd.S_base g7)) (Kd.R_base f0))); replace l3 := zA (Deep.S_oldT B1 (Kd.S_told (Kd.S_told (Kd.S_old (by (with_reducible repeat (first | apply Kd.S_alloc | apply Kd.S_drewN | apply Kd.S_drew)); exact l3.out) hb) (Kd.S_base g7)) (Kd.R_base f0))); have l1 := zA (Kd.R_lower (Kd.R_new' (Kd.R_new' (Kd.R_new' (Kd.R_new' (Deep.R_newT B1 f0) (Kd.R_lt (zR d7.out))) (Kd.R_lt (zR d8.out))) (Kd.R_lt (zR d1.out))) (Kd.R_lt (zR k9.out))) (below_size (zW HB.out))); replace d7 := zA (Kd.R_elder' (zR d7.out) (Kd.R_base f0) hb); replace d8 := zA (Kd.R_elder' (zR d8.out) (Kd.R_base f0) hb); replace d1 := zA (Kd.R_elder' (zR d1.out) (Kd.R_base f0) hb); replace k9 := zA (Kd.R_elder' (zR k9.out) (Kd.R_base f0) hb); replace b2 := zb b2 hb; replace b3 := zb b3 hb; replace b7 := zb b7 hb; replace b6 := zb b6 hb; replace HB := zh HB hb; clear B1; (try clear hb g7 f0)) | ((with_reducible refine zd 14 ?_); refine ze 14 29 #[.int .i64 0, .int .i64 0, .string (⟨#[]⟩ : ByteArray), .slice none 0 0, .slice none 0 0] ?_; intro b0 hg a5a hbox hb; replace e1 := zA (Kd.S_below (Kd.S_elderB (by (with_reducible repeat (first | apply Kd.S_alloc | apply Kd.S_drewN | apply Kd.S_drew)); exact e1.out) b0 (Nat.le_of_eq hg.symm)) hb); replace d7 := zr d7 hb; replace e5 := zA (Kd.S_below (Kd.S_elderB (by (with_reducible repeat (first | apply Kd.S_alloc | apply Kd.S_drewN | apply Kd.S_drew)); exact e5.out) b0 (Nat.le_of_eq hg.symm)) hb); replace d8 := zr d8 hb; replace d9 := zA (Kd.S_below (Kd.S_elderB (by (with_reducible repeat (first | apply Kd.S_alloc | apply Kd.S_drewN | apply Kd.S_drew)); exact d9.out) b0 (Nat.le_of_eq hg.symm)) hb); replace d1 := zr d1 hb; replace l3 := zA (Kd.S_below (Kd.S_elderB (by (with_reducible repeat (first | apply Kd.S_alloc | apply Kd.S_drewN | apply Kd.S_drew)); exact l3.out) b0 (Nat.le_of_eq hg.symm)) hb); replace k9 := zr k9 hb; replace l0 := zA (Kd.S_below (Kd.S_elderB (by (with_reducible repeat (first | apply Kd.S_alloc | apply Kd.S_drewN | apply Kd.S_drew)); exact l0.out) b0 (Nat.le_of_eq hg.symm)) hb); replace l1 := zr l1 hb; have h8 := zA (hbox); have a5b := zi HB hg; have a5c := zi HB hg; replace HB := zh HB hb; have Q5 := zA (zL hg (zK b2.out)); have Q6 := zA (zJ hg (zK b2.out)); replace b2 := zb b2 hb; have Q7 := zA (zL hg (zK b3.out)); have Q8 := zA (zJ hg (zK b3.out)); replace b3 := zb b3 hb; have Q9 := zA (zL hg (zK b7.out)); have R0 := zA (zJ hg (zK b7.out)); replace b7 := zb b7 hb; have M9 := zA (zL hg (zK b6.out)); have N0 := zA (zJ hg (zK b6.out)); replace b6 := zb b6 hb; clear hb hbox hg; have a5d := Q6.out; have a5e := Q5.out; have a5f := Q8.out; have a5g := Q7.out; have a5h := R0.out; have a5i := Q9.out; have a5j := N0.out; have a5k := M9.out; obtain ⟨X0, X1, X2, X3, X4, X5, X6, X7, X8, X9⟩ := ze5 h8.out; obtain ⟨h3, h2, a1m⟩ := Kd.S_slice l0.out; subst a1m; obtain ⟨f7, f5, a1n⟩ := Kd.R_slice l1.out; subst a1n))
                   (try simp only [Act.put, zT])
                   go_cut [95] (fun v95 wc => ∃ (kq : Nat) (R1 : Bool), v95 = .bool R1 ∧ Aside0 (laws_FnExactAtKey.j9 kq J1 R1 e6 e7 e9 g8 f2 = some r) ∧ Aside0 (kq ≤ J3) ∧ Aside0 (Kd.S k29 29 wc w.heap.size (fun k_ => some k_ ≠ ((.slice a9 a2.length a8) : Value).ownBlock ∧ some k_ ≠ ((.slice d5 g3.length d3) : Value).ownBlock ∧ some k_ ≠ ((.slice a6 e2.length a5) : Value).ownBlock ∧ some k_ ≠ ((.slice d0 g8.length c0) : Value).ownBlock ∧ some k_ ≠ ((.slice a4 f2.length a3) : Value).ownBlock ∧ some k_ ≠ ((.slice h3 g1.length h2) : Value).ownBlock ∧ some k_ ≠ ((.slice f7 f3.length f5) : Value).ownBlock ∧ k_ ≠ b5 ∧ k_ ≠ a7 ∧ k_ ≠ a0 ∧ k_ ≠ b0 ∧ h6 k_ ∧ ¬ g0 k_ ∧ ¬ e8 k_ ∧ ¬ h4 k_ ∧ ¬ A7 k_ ∧ ¬ k2 k_) (.slice e0 b4.length d6) b4) ∧ Aside0 (Kd.R Kd.string 9 wc w.heap.size (fun k_ => some k_ ≠ ((.slice a6 e2.length a5) : Value).ownBlock ∧ some k_ ≠ ((.slice a4 f2.length a3) : Value).ownBlock ∧ some k_ ≠ ((.slice f7 f3.length f5) : Value).ownBlock ∧ h6 k_) (.slice a9 a2.length a8) a2) ∧ Aside0 (Kd.S k29 29 wc w.heap.size (fun k_ => some k_ ≠ ((.slice e0 b4.length d6) : Value).ownBlock ∧ some k_ ≠ ((.slice a9 a2.length a8) : Value).ownBlock ∧ some k_ ≠ ((.slice a6 e2.length a5) : Value).ownBlock ∧ some k_ ≠ ((.slice d0 g8.length c0) : Value).ownBlock ∧ some k_ ≠ ((.slice a4 f2.length a3) : Value).ownBlock ∧ some k_ ≠ ((.slice h3 g1.length h2) : Value).ownBlock ∧ some k_ ≠ ((.slice f7 f3.length f5) : Value).ownBlock ∧ k_ ≠ b5 ∧ k_ ≠ a7 ∧ k_ ≠ a0 ∧ k_ ≠ b0 ∧ g0 k_ ∧ ¬ e8 k_ ∧ ¬ h4 k_ ∧ ¬ A7 k_ ∧ ¬ k2 k_) (.slice d5 g3.length d3) g3) ∧ Aside0 (Kd.R Kd.string 9 wc w.heap.size (fun k_ => some k_ ≠ ((.slice a9 a2.length a8) : Value).ownBlock ∧ some k_ ≠ ((.slice a4 f2.length a3) : Value).ownBlock ∧ some k_ ≠ ((.slice f7 f3.length f5) : Value).ownBlock ∧ g0 k_) (.slice a6 e2.length a5) e2) ∧ Aside0 (Kd.S k29 29 wc w.heap.size (fun k_ => some k_ ≠ ((.slice e0 b4.length d6) : Value).ownBlock ∧ some k_ ≠ ((.slice a9 a2.length a8) : Value).ownBlock ∧ some k_ ≠ ((.slice d5 g3.length d3) : Value).ownBlock ∧ some k_ ≠ ((.slice a6 e2.length a5) : Value).ownBlock ∧ some k_ ≠ ((.slice a4 f2.length a3) : Value).ownBlock ∧ some k_ ≠ ((.slice h3 g1.length h2) : Value).ownBlock ∧ some k_ ≠ ((.slice f7 f3.length f5) : Value).ownBlock ∧ k_ ≠ b5 ∧ k_ ≠ a7 ∧ k_ ≠ a0 ∧ k_ ≠ b0 ∧ e8 k_ ∧ ¬ h4 k_ ∧ ¬ A7 k_ ∧ ¬ k2 k_) (.slice d0 g8.length c0) g8) ∧ Aside0 (Kd.R Kd.string 9 wc w.heap.size (fun k_ => some k_ ≠ ((.slice a9 a2.length a8) : Value).ownBlock ∧ some k_ ≠ ((.slice a6 e2.length a5) : Value).ownBlock ∧ some k_ ≠ ((.slice f7 f3.length f5) : Value).ownBlock ∧ e8 k_) (.slice a4 f2.length a3) f2) ∧ Aside0 (Kd.S k29 29 wc w.heap.size (fun k_ => some k_ ≠ ((.slice e0 b4.length d6) : Value).ownBlock ∧ some k_ ≠ ((.slice a9 a2.length a8) : Value).ownBlock ∧ some k_ ≠ ((.slice d5 g3.length d3) : Value).ownBlock ∧ some k_ ≠ ((.slice a6 e2.length a5) : Value).ownBlock ∧ some k_ ≠ ((.slice d0 g8.length c0) : Value).ownBlock ∧ some k_ ≠ ((.slice a4 f2.length a3) : Value).ownBlock ∧ some k_ ≠ ((.slice f7 f3.length f5) : Value).ownBlock ∧ k_ ≠ b5 ∧ k_ ≠ a7 ∧ k_ ≠ a0 ∧ k_ ≠ b0 ∧ k2 k_) (.slice h3 g1.length h2) g1) ∧ Aside0 (Kd.R Kd.string 9 wc w.heap.size (fun k_ => some k_ ≠ ((.slice a9 a2.length a8) : Value).ownBlock ∧ some k_ ≠ ((.slice a6 e2.length a5) : Value).ownBlock ∧ some k_ ≠ ((.slice a4 f2.length a3) : Value).ownBlock ∧ k2 k_) (.slice f7 f3.length f5) f3) ∧ Aside0 (wc.heap[i8]? = some (.cells #[.int .i64 g9, .int .i64 h0, .string h1, (.slice i4 g4.length i5), (.slice i6 g5.length i7)] 25 (0, 0))) ∧ Aside0 (wc.heap[b5]? = some (.cells #[.int .i64 f4, .int .i64 f6, .string f8, (.slice e0 b4.length d6), (.slice a9 a2.length a8)] 29 (0, 0))) ∧ Aside0 (wc.heap[a7]? = some (.cells #[.int .i64 f9, .int .i64 g2, .string g6, (.slice d5 g3.length d3), (.slice a6 e2.length a5)] 29 (0, 0))) ∧ Aside0 (wc.heap[a0]? = some (.cells #[.int .i64 e6, .int .i64 e7, .string e9, (.slice d0 g8.length c0), (.slice a4 f2.length a3)] 29 (0, 0))) ∧ Aside0 (wc.heap[b0]? = some (.cells #[.int .i64 h5, .int .i64 h7, .string h9, (.slice h3 g1.length h2), (.slice f7 f3.length f5)] 29 (0, 0))) ∧ Aside0 (Below w.heap.size w wc))
                   case first =>
                    have H := Q4.out; clear Q4; replace H := Option.bind_eq_some_iff.mp H; obtain ⟨a5l, Y0, H⟩ := H
                    try dsimp only at H
                    have Y1 := zA Y0; clear Y0; replace H := zB0 H
                    rcases H with ⟨rfl, H⟩ | ⟨rfl, H⟩
                    ·have H' := zA H; clear H; have a5m := Q6.out; have a5n := Q5.out; have a5o := Q8.out; have a5p := Q7.out; have a5q := R0.out; have a5r := Q9.out; have a5s := N0.out; have a5t := M9.out; obtain ⟨Y2, Y3, Y4, Y5, Y6, Y7, Y8, Y9, Z0, Z1⟩ := ze5 h8.out; have a5v := z9.out; have a5x := z8.out; have a5y := A0.out; have a5z := A1.out; have a60 := r2.out; have a61 := r3.out; obtain ⟨Z2, Z3, Z4, Z5, Z6, Z7, Z8, Z9, a00, a01⟩ := ze5 b3.out
                     go_wp2_with (first | ((with_reducible refine zq 10 ?_); refine zg (some 89) Try.func10 #[.agg #[.int .i64 h5, .int .i64 h7, .string h9, .slice h3 g1.length h2, .slice f7 f3.length f5], .agg #[.int .i64 f4, .int .i64 f6, .string f8, .slice e0 b4.length d6, .slice a9 a2.length a8]] ?_; (with_reducible refine (laws_eqVal.calls J3 h5 h7 h9 _ _ g1 _ _ f3 f4 f6 f8 _ _ b4 _ _ a2 true _ ?s1 ?s2 ?s3 ?s4 ?s5 ?s6 ?s7 ?s8 Y1.out).mono ?_); (case s1 => refine (Kd.S_reads' (e := 29) (base := w.heap.size) (ok := fun k_ => (((((((((((((some k_ ≠ (.slice f7 f3.length f5 : Value).ownBlock ∧ k2 k_) ∧ some k_ ≠ (.slice e0 b4.length d6 : Value).ownBlock) ∧ some k_ ≠ (.slice a9 a2.length a8 : Value).ownBlock) ∧ some k_ ≠ (.slice d5 g3.length d3 : Value).ownBlock) ∧ some k_ ≠ (.slice a6 e2.length a5 : Value).ownBlock) ∧ some k_ ≠ (.slice d0 g8.length c0 : Value).ownBlock) ∧ some k_ ≠ (.slice a4 f2.length a3 : Value).ownBlock) ∧ some k_ ≠ (.slice J4 B0.length J5 : Value).ownBlock) ∧ some k_ ≠ (.slice z5 l9.length z6 : Value).ownBlock) ∧ k_ ≠ b5) ∧ k_ ≠ a7) ∧ k_ ≠ a0) ∧ k_ ≠ b0)) (n := g1.length) (c := h2) ?_).2.2; exact (by (with_reducible repeat (first | apply Kd.S_alloc | apply Kd.S_drewN | apply Kd.S_drew)); exact (Kd.S_mono (Kd.S_far (p := ⟨b0, 4, none⟩) (Kd.S_far (p := ⟨b0, 3, none⟩) (Kd.S_far (p := ⟨b0, 2, none⟩) (Kd.S_far (p := ⟨b0, 1, none⟩) (Kd.S_far (p := ⟨b0, 0, none⟩) (Kd.S_mono l0.out (fun k_ hk => (⟨hk, hk.2⟩ : _ ∧ k_ ≠ b0))) (fun _ hk => hk.2) (.int .i64 h5)) (fun _ hk => hk.2) (.int .i64 h7)) (fun _ hk => hk.2) (.string h9)) (fun _ hk => hk.2) (.slice h3 g1.length h2)) (fun _ hk => hk.2) (.slice f7 f3.length f5)) (fun _ h_ => h_.1)))); (case s2 => exact (Kd.S_reads' l0.out).2.1); (case s3 => refine (Kd.R_reads' (e := 9) (base := w.heap.size) (ok := fun k_ => (((((True ∧ k2 k_) ∧ some k_ ≠ (.slice a9 a2.length a8 : Value).ownBlock) ∧ some k_ ≠ (.slice a6 e2.length a5 : Value).ownBlock) ∧ some k_ ≠ (.slice a4 f2.length a3 : Value).ownBlock) ∧ some k_ ≠ (.slice z5 l9.length z6 : Value).ownBlock)) (n := f3.length) (c := f5) ?_).2.2; exact (zR (zr5 l1.out h8.out))); (case s4 => exact (Kd.R_reads' l1.out).2.1); (case s5 => refine (Kd.S_reads' (e := 29) (base := w.heap.size) (ok := fun k_ => ((((((((some k_ ≠ (.slice a9 a2.length a8 : Value).ownBlock ∧ (some k_ ≠ (.slice d5 g3.length d3 : Value).ownBlock ∧ (some k_ ≠ (.slice a6 e2.length a5 : Value).ownBlock ∧ (some k_ ≠ (.slice d0 g8.length c0 : Value).ownBlock ∧ (some k_ ≠ (.slice a4 f2.length a3 : Value).ownBlock ∧ (k_ ≠ b5 ∧ (k_ ≠ a7 ∧ (k_ ≠ a0 ∧ (h6 k_ ∧ (¬ g0 k_ ∧ (¬ e8 k_ ∧ ¬ h4 k_))))))))))) ∧ some k_ ≠ (.slice J4 B0.length J5 : Value).ownBlock) ∧ some k_ ≠ (.slice z5 l9.length z6 : Value).ownBlock) ∧ ¬ A7 k_) ∧ some k_ ≠ (.slice h3 g1.length h2 : Value).ownBlock) ∧ some k_ ≠ (.slice f7 f3.length f5 : Value).ownBlock) ∧ ¬ k2 k_) ∧ k_ ≠ b0)) (n := b4.length) (c := d6) ?_).2.2; exact (by (with_reducible repeat (first | apply Kd.S_alloc | apply Kd.S_drewN | apply Kd.S_drew)); exact (Kd.S_mono (Kd.S_far (p := ⟨b0, 4, none⟩) (Kd.S_far (p := ⟨b0, 3, none⟩) (Kd.S_far (p := ⟨b0, 2, none⟩) (Kd.S_far (p := ⟨b0, 1, none⟩) (Kd.S_far (p := ⟨b0, 0, none⟩) (Kd.S_mono e1.out (fun k_ hk => (⟨hk, hk.2⟩ : _ ∧ k_ ≠ b0))) (fun _ hk => hk.2) (.int .i64 h5)) (fun _ hk => hk.2) (.int .i64 h7)) (fun _ hk => hk.2) (.string h9)) (fun _ hk => hk.2) (.slice h3 g1.length h2)) (fun _ hk => hk.2) (.slice f7 f3.length f5)) (fun _ h_ => h_.1)))); (case s6 => exact (Kd.S_reads' e1.out).2.1); (case s7 => refine (Kd.R_reads' (e := 9) (base := w.heap.size) (ok := fun k_ => (((some k_ ≠ (.slice a6 e2.length a5 : Value).ownBlock ∧ (some k_ ≠ (.slice a4 f2.length a3 : Value).ownBlock ∧ h6 k_)) ∧ some k_ ≠ (.slice z5 l9.length z6 : Value).ownBlock) ∧ some k_ ≠ (.slice f7 f3.length f5 : Value).ownBlock)) (n := a2.length) (c := a8) ?_).2.2; exact (zR (zr5 d7.out h8.out))); (case s8 => exact (Kd.R_reads' d7.out).2.1); rintro e a62 ⟨rfl, hb⟩; refine ⟨_, rfl, ?_⟩; replace e1 := zA (Kd.S_below (by (with_reducible repeat (first | apply Kd.S_alloc | apply Kd.S_drewN | apply Kd.S_drew)); exact (Kd.S_mono (Kd.S_far (p := ⟨b0, 4, none⟩) (Kd.S_far (p := ⟨b0, 3, none⟩) (Kd.S_far (p := ⟨b0, 2, none⟩) (Kd.S_far (p := ⟨b0, 1, none⟩) (Kd.S_far (p := ⟨b0, 0, none⟩) (Kd.S_mono e1.out (fun k_ hk => (⟨hk, hk.2⟩ : _ ∧ k_ ≠ b0))) (fun _ hk => hk.2) (.int .i64 h5)) (fun _ hk => hk.2) (.int .i64 h7)) (fun _ hk => hk.2) (.string h9)) (fun _ hk => hk.2) (.slice h3 g1.length h2)) (fun _ hk => hk.2) (.slice f7 f3.length f5)) (fun _ h_ => h_.1))) hb); replace d7 := zA (Kd.R_below (zR (zr5 d7.out h8.out)) hb); replace e5 := zA (Kd.S_below (by (with_reducible repeat (first | apply Kd.S_alloc | apply Kd.S_drewN | apply Kd.S_drew)); exact (Kd.S_mono (Kd.S_far (p := ⟨b0, 4, none⟩) (Kd.S_far (p := ⟨b0, 3, none⟩) (Kd.S_far (p := ⟨b0, 2, none⟩) (Kd.S_far (p := ⟨b0, 1, none⟩) (Kd.S_far (p := ⟨b0, 0, none⟩) (Kd.S_mono e5.out (fun k_ hk => (⟨hk, hk.2⟩ : _ ∧ k_ ≠ b0))) (fun _ hk => hk.2) (.int .i64 h5)) (fun _ hk => hk.2) (.int .i64 h7)) (fun _ hk => hk.2) (.string h9)) (fun _ hk => hk.2) (.slice h3 g1.length h2)) (fun _ hk => hk.2) (.slice f7 f3.length f5)) (fun _ h_ => h_.1))) hb); replace d8 := zA (Kd.R_below (zR (zr5 d8.out h8.out)) hb); replace d9 := zA (Kd.S_below (by (with_reducible repeat (first | apply Kd.S_alloc | apply Kd.S_drewN | apply Kd.S_drew)); exact (Kd.S_mono (Kd.S_far (p := ⟨b0, 4, none⟩) (Kd.S_far (p := ⟨b0, 3, none⟩) (Kd.S_far (p := ⟨b0, 2, none⟩) (Kd.S_far (p := ⟨b0, 1, none⟩) (Kd.S_far (p := ⟨b0, 0, none⟩) (Kd.S_mono d9.out (fun k_ hk => (⟨hk, hk.2⟩ : _ ∧ k_ ≠ b0))) (fun _ hk => hk.2) (.int .i64 h5)) (fun _ hk => hk.2) (.int .i64 h7)) (fun _ hk => hk.2) (.string h9)) (fun _ hk => hk.2) (.slice h3 g1.length h2)) (fun _ hk => hk.2) (.slice f7 f3.length f5)) (fun _ h_ => h_.1))) hb); replace d1 := zA (Kd.R_below (zR (zr5 d1.out h8.out)) hb); replace l3 := zA (Kd.S_below (by (with_reducible repeat (first | apply Kd.S_alloc | apply Kd.S_drewN | apply Kd.S_drew)); exact (Kd.S_mono (Kd.S_far (p := ⟨b0, 4, none⟩) (Kd.S_far (p := ⟨b0, 3, none⟩) (Kd.S_far (p := ⟨b0, 2, none⟩) (Kd.S_far (p := ⟨b0, 1, none⟩) (Kd.S_far (p := ⟨b0, 0, none⟩) (Kd.S_mono l3.out (fun k_ hk => (⟨hk, hk.2⟩ : _ ∧ k_ ≠ b0))) (fun _ hk => hk.2) (.int .i64 h5)) (fun _ hk => hk.2) (.int .i64 h7)) (fun _ hk => hk.2) (.string h9)) (fun _ hk => hk.2) (.slice h3 g1.length h2)) (fun _ hk => hk.2) (.slice f7 f3.length f5)) (fun _ h_ => h_.1))) hb); replace k9 := zA (Kd.R_below (zR (zr5 k9.out h8.out)) hb); replace l0 := zA (Kd.S_below (by (with_reducible repeat (first | apply Kd.S_alloc | apply Kd.S_drewN | apply Kd.S_drew)); exact (Kd.S_mono (Kd.S_far (p := ⟨b0, 4, none⟩) (Kd.S_far (p := ⟨b0, 3, none⟩) (Kd.S_far (p := ⟨b0, 2, none⟩) (Kd.S_far (p := ⟨b0, 1, none⟩) (Kd.S_far (p := ⟨b0, 0, none⟩) (Kd.S_mono l0.out (fun k_ hk => (⟨hk, hk.2⟩ : _ ∧ k_ ≠ b0))) (fun _ hk => hk.2) (.int .i64 h5)) (fun _ hk => hk.2) (.int .i64 h7)) (fun _ hk => hk.2) (.string h9)) (fun _ hk => hk.2) (.slice h3 g1.length h2)) (fun _ hk => hk.2) (.slice f7 f3.length f5)) (fun _ h_ => h_.1))) hb); replace l1 := zA (Kd.R_below (zR (zr5 l1.out h8.out)) hb); replace b2 := zb b2 hb; replace b3 := zb b3 hb; replace b7 := zb b7 hb; replace b6 := zb b6 hb; replace h8 := zA (blk_below (g := b0) (o := .cells #[.int .i64 h5, .int .i64 h7, .string h9, .slice h3 g1.length h2, .slice f7 f3.length f5] 29 (0, 0)) (by (with_reducible repeat (first | refine blk_drewN ?_ _ | refine blk_drew ?_ | refine blk_alloc ?_ _)); refine blk_put (cs := #[.int .i64 h5, .int .i64 h7, .string h9, .slice h3 g1.length h2, .slice none 0 0]) ?_ 4 _ rfl; (with_reducible repeat (first | refine blk_drewN ?_ _ | refine blk_drew ?_ | refine blk_alloc ?_ _)); refine blk_put (cs := #[.int .i64 h5, .int .i64 h7, .string h9, .slice none 0 0, .slice none 0 0]) ?_ 3 _ rfl; (with_reducible repeat (first | refine blk_drewN ?_ _ | refine blk_drew ?_ | refine blk_alloc ?_ _)); refine blk_put (cs := #[.int .i64 h5, .int .i64 h7, .string (⟨#[]⟩ : ByteArray), .slice none 0 0, .slice none 0 0]) ?_ 2 _ rfl; (with_reducible repeat (first | refine blk_drewN ?_ _ | refine blk_drew ?_ | refine blk_alloc ?_ _)); refine blk_put (cs := #[.int .i64 h5, .int .i64 0, .string (⟨#[]⟩ : ByteArray), .slice none 0 0, .slice none 0 0]) ?_ 1 _ rfl; (with_reducible repeat (first | refine blk_drewN ?_ _ | refine blk_drew ?_ | refine blk_alloc ?_ _)); refine blk_put (cs := #[.int .i64 0, .int .i64 0, .string (⟨#[]⟩ : ByteArray), .slice none 0 0, .slice none 0 0]) ?_ 0 _ rfl; (with_reducible repeat (first | refine blk_drewN ?_ _ | refine blk_drew ?_ | refine blk_alloc ?_ _)); exact h8.out) hb); replace HB := zh HB hb; (try clear hb)))
                     go_meet
                     case rel => exact ⟨_, ((U8 != l4)), zS, (by first | exact H' | (subst_vars; exact H')), ⟨by have := k4.out; have := k5.out; have := l7.out; have := n0.out; have := z4.out; have := G7.out; have := J0.out; have := M8.out; have := Q0.out; first | omega | exact Nat.le_refl _⟩, ⟨by (try simp only [b8]); (try simp only [b9]); (try simp only [e3]); (try simp only [e4]); (with_reducible repeat (first | apply Kd.S_alloc | apply Kd.S_drewN | apply Kd.S_drew)); exact Kd.S_mono e1.out (fun _ hk => ⟨hk.1.1.1.1.1.1.1.1, ⟨hk.1.1.1.1.1.1.1.2.1, ⟨hk.1.1.1.1.1.1.1.2.2.1, ⟨hk.1.1.1.1.1.1.1.2.2.2.1, ⟨hk.1.1.1.1.1.1.1.2.2.2.2.1, ⟨hk.1.1.1.2, ⟨hk.1.1.2, ⟨hk.1.1.1.1.1.1.1.2.2.2.2.2.1, ⟨hk.1.1.1.1.1.1.1.2.2.2.2.2.2.1, ⟨hk.1.1.1.1.1.1.1.2.2.2.2.2.2.2.1, ⟨hk.2, ⟨hk.1.1.1.1.1.1.1.2.2.2.2.2.2.2.2.1, ⟨hk.1.1.1.1.1.1.1.2.2.2.2.2.2.2.2.2.1, ⟨hk.1.1.1.1.1.1.1.2.2.2.2.2.2.2.2.2.2.1, ⟨hk.1.1.1.1.1.1.1.2.2.2.2.2.2.2.2.2.2.2, ⟨hk.1.1.1.1.2, hk.1.2⟩⟩⟩⟩⟩⟩⟩⟩⟩⟩⟩⟩⟩⟩⟩⟩)⟩, ⟨by (try simp only [b8]); (try simp only [b9]); (try simp only [e3]); (try simp only [e4]); (with_reducible repeat (first | apply Kd.R_alloc | apply Kd.R_drewN | apply Kd.R_drew)); exact Kd.R_mono d7.out (fun _ hk => ⟨hk.1.1.1, ⟨hk.1.1.2.1, ⟨hk.2, hk.1.1.2.2⟩⟩⟩)⟩, ⟨by (try simp only [b8]); (try simp only [b9]); (try simp only [e3]); (try simp only [e4]); (with_reducible repeat (first | apply Kd.S_alloc | apply Kd.S_drewN | apply Kd.S_drew)); exact Kd.S_mono e5.out (fun _ hk => ⟨hk.1.1.1.1.1.1.1.1, ⟨hk.1.1.1.1.1.1.1.2.1, ⟨hk.1.1.1.1.1.1.1.2.2.1, ⟨hk.1.1.1.1.1.1.1.2.2.2.1, ⟨hk.1.1.1.1.1.1.1.2.2.2.2.1, ⟨hk.1.1.1.2, ⟨hk.1.1.2, ⟨hk.1.1.1.1.1.1.1.2.2.2.2.2.1, ⟨hk.1.1.1.1.1.1.1.2.2.2.2.2.2.1, ⟨hk.1.1.1.1.1.1.1.2.2.2.2.2.2.2.1, ⟨hk.2, ⟨hk.1.1.1.1.1.1.1.2.2.2.2.2.2.2.2.1, ⟨hk.1.1.1.1.1.1.1.2.2.2.2.2.2.2.2.2.1, ⟨hk.1.1.1.1.1.1.1.2.2.2.2.2.2.2.2.2.2, ⟨hk.1.1.1.1.2, hk.1.2⟩⟩⟩⟩⟩⟩⟩⟩⟩⟩⟩⟩⟩⟩⟩)⟩, ⟨by (try simp only [b8]); (try simp only [b9]); (try simp only [e3]); (try simp only [e4]); (with_reducible repeat (first | apply Kd.R_alloc | apply Kd.R_drewN | apply Kd.R_drew)); exact Kd.R_mono d8.out (fun _ hk => ⟨hk.1.1.1, ⟨hk.1.1.2.1, ⟨hk.2, hk.1.1.2.2⟩⟩⟩)⟩, ⟨by (try simp only [b8]); (try simp only [b9]); (try simp only [e3]); (try simp only [e4]); (with_reducible repeat (first | apply Kd.S_alloc | apply Kd.S_drewN | apply Kd.S_drew)); exact Kd.S_mono d9.out (fun _ hk => ⟨hk.1.1.1.1.1.1.1.1, ⟨hk.1.1.1.1.1.1.1.2.1, ⟨hk.1.1.1.1.1.1.1.2.2.1, ⟨hk.1.1.1.1.1.1.1.2.2.2.1, ⟨hk.1.1.1.1.1.1.1.2.2.2.2.1, ⟨hk.1.1.1.2, ⟨hk.1.1.2, ⟨hk.1.1.1.1.1.1.1.2.2.2.2.2.1, ⟨hk.1.1.1.1.1.1.1.2.2.2.2.2.2.1, ⟨hk.1.1.1.1.1.1.1.2.2.2.2.2.2.2.1, ⟨hk.2, ⟨hk.1.1.1.1.1.1.1.2.2.2.2.2.2.2.2.1, ⟨hk.1.1.1.1.1.1.1.2.2.2.2.2.2.2.2.2, ⟨hk.1.1.1.1.2, hk.1.2⟩⟩⟩⟩⟩⟩⟩⟩⟩⟩⟩⟩⟩⟩)⟩, ⟨by (try simp only [b8]); (try simp only [b9]); (try simp only [e3]); (try simp only [e4]); (with_reducible repeat (first | apply Kd.R_alloc | apply Kd.R_drewN | apply Kd.R_drew)); exact Kd.R_mono d1.out (fun _ hk => ⟨hk.1.1.1, ⟨hk.1.1.2.1, ⟨hk.2, hk.1.1.2.2⟩⟩⟩)⟩, ⟨by (try simp only [b8]); (try simp only [b9]); (try simp only [e3]); (try simp only [e4]); (with_reducible repeat (first | apply Kd.S_alloc | apply Kd.S_drewN | apply Kd.S_drew)); exact Kd.S_mono l0.out (fun _ hk => ⟨hk.1.1.1.1.1.1.1.1.1.1.1.2, ⟨hk.1.1.1.1.1.1.1.1.1.1.2, ⟨hk.1.1.1.1.1.1.1.1.1.2, ⟨hk.1.1.1.1.1.1.1.1.2, ⟨hk.1.1.1.1.1.1.1.2, ⟨hk.1.1.1.1.1.1.2, ⟨hk.1.1.1.1.1.1.1.1.1.1.1.1.1, ⟨hk.1.1.1.2, ⟨hk.1.1.2, ⟨hk.1.2, ⟨hk.2, hk.1.1.1.1.1.1.1.1.1.1.1.1.2⟩⟩⟩⟩⟩⟩⟩⟩⟩⟩⟩)⟩, ⟨by (try simp only [b8]); (try simp only [b9]); (try simp only [e3]); (try simp only [e4]); (with_reducible repeat (first | apply Kd.R_alloc | apply Kd.R_drewN | apply Kd.R_drew)); exact Kd.R_mono l1.out (fun _ hk => ⟨hk.1.1.1.2, ⟨hk.1.1.2, ⟨hk.1.2, hk.1.1.1.1.2⟩⟩⟩)⟩, ⟨by (try simp only [b8]); (try simp only [b9]); (try simp only [e3]); (try simp only [e4]); (with_reducible repeat (first | refine blk_drewN ?_ _ | refine blk_drew ?_ | refine blk_alloc ?_ _)); exact b2.out⟩, ⟨by (try simp only [b8]); (try simp only [b9]); (try simp only [e3]); (try simp only [e4]); (with_reducible repeat (first | refine blk_drewN ?_ _ | refine blk_drew ?_ | refine blk_alloc ?_ _)); exact b3.out⟩, ⟨by (try simp only [b8]); (try simp only [b9]); (try simp only [e3]); (try simp only [e4]); (with_reducible repeat (first | refine blk_drewN ?_ _ | refine blk_drew ?_ | refine blk_alloc ?_ _)); exact b7.out⟩, ⟨by (try simp only [b8]); (try simp only [b9]); (try simp only [e3]); (try simp only [e4]); (with_reducible repeat (first | refine blk_drewN ?_ _ | refine blk_drew ?_ | refine blk_alloc ?_ _)); exact b6.out⟩, ⟨by (try simp only [b8]); (try simp only [b9]); (try simp only [e3]); (try simp only [e4]); (with_reducible repeat (first | refine blk_drewN ?_ _ | refine blk_drew ?_ | refine blk_alloc ?_ _)); exact h8.out⟩, ⟨zW HB.out⟩⟩
                    have H' := zA H; clear H; have a63 := Q6.out; have a64 := Q5.out; have a65 := Q8.out; have a66 := Q7.out; have a67 := R0.out; have a68 := Q9.out; have a69 := N0.out; have a6a := M9.out; obtain ⟨a02, a03, a04, a05, a06, a07, a08, a09, a0a, a0b⟩ := ze5 h8.out; have a6b := z9.out; have a6c := z8.out; have a6d := A0.out; have a6e := A1.out; have a6f := r2.out; have a6g := r3.out; obtain ⟨a0c, a0d, a0e, a0f, a0g, a0h, a0i, a0j, a0k, a0l⟩ := ze5 b3.out
                    go_wp2_with (first | ((with_reducible refine zq 10 ?_); refine zg (some 89) Try.func10 #[.agg #[.int .i64 h5, .int .i64 h7, .string h9, .slice h3 g1.length h2, .slice f7 f3.length f5], .agg #[.int .i64 f4, .int .i64 f6, .string f8, .slice e0 b4.length d6, .slice a9 a2.length a8]] ?_; (with_reducible refine (laws_eqVal.calls J3 h5 h7 h9 _ _ g1 _ _ f3 f4 f6 f8 _ _ b4 _ _ a2 false _ ?s1 ?s2 ?s3 ?s4 ?s5 ?s6 ?s7 ?s8 Y1.out).mono ?_); (case s1 => refine (Kd.S_reads' (e := 29) (base := w.heap.size) (ok := fun k_ => (((((((((((((some k_ ≠ (.slice f7 f3.length f5 : Value).ownBlock ∧ k2 k_) ∧ some k_ ≠ (.slice e0 b4.length d6 : Value).ownBlock) ∧ some k_ ≠ (.slice a9 a2.length a8 : Value).ownBlock) ∧ some k_ ≠ (.slice d5 g3.length d3 : Value).ownBlock) ∧ some k_ ≠ (.slice a6 e2.length a5 : Value).ownBlock) ∧ some k_ ≠ (.slice d0 g8.length c0 : Value).ownBlock) ∧ some k_ ≠ (.slice a4 f2.length a3 : Value).ownBlock) ∧ some k_ ≠ (.slice J4 B0.length J5 : Value).ownBlock) ∧ some k_ ≠ (.slice z5 l9.length z6 : Value).ownBlock) ∧ k_ ≠ b5) ∧ k_ ≠ a7) ∧ k_ ≠ a0) ∧ k_ ≠ b0)) (n := g1.length) (c := h2) ?_).2.2; exact (by (with_reducible repeat (first | apply Kd.S_alloc | apply Kd.S_drewN | apply Kd.S_drew)); exact (Kd.S_mono (Kd.S_far (p := ⟨b0, 4, none⟩) (Kd.S_far (p := ⟨b0, 3, none⟩) (Kd.S_far (p := ⟨b0, 2, none⟩) (Kd.S_far (p := ⟨b0, 1, none⟩) (Kd.S_far (p := ⟨b0, 0, none⟩) (Kd.S_mono l0.out (fun k_ hk => (⟨hk, hk.2⟩ : _ ∧ k_ ≠ b0))) (fun _ hk => hk.2) (.int .i64 h5)) (fun _ hk => hk.2) (.int .i64 h7)) (fun _ hk => hk.2) (.string h9)) (fun _ hk => hk.2) (.slice h3 g1.length h2)) (fun _ hk => hk.2) (.slice f7 f3.length f5)) (fun _ h_ => h_.1)))); (case s2 => exact (Kd.S_reads' l0.out).2.1); (case s3 => refine (Kd.R_reads' (e := 9) (base := w.heap.size) (ok := fun k_ => (((((True ∧ k2 k_) ∧ some k_ ≠ (.slice a9 a2.length a8 : Value).ownBlock) ∧ some k_ ≠ (.slice a6 e2.length a5 : Value).ownBlock) ∧ some k_ ≠ (.slice a4 f2.length a3 : Value).ownBlock) ∧ some k_ ≠ (.slice z5 l9.length z6 : Value).ownBlock)) (n := f3.length) (c := f5) ?_).2.2; exact (zR (zr5 l1.out h8.out))); (case s4 => exact (Kd.R_reads' l1.out).2.1); (case s5 => refine (Kd.S_reads' (e := 29) (base := w.heap.size) (ok := fun k_ => ((((((((some k_ ≠ (.slice a9 a2.length a8 : Value).ownBlock ∧ (some k_ ≠ (.slice d5 g3.length d3 : Value).ownBlock ∧ (some k_ ≠ (.slice a6 e2.length a5 : Value).ownBlock ∧ (some k_ ≠ (.slice d0 g8.length c0 : Value).ownBlock ∧ (some k_ ≠ (.slice a4 f2.length a3 : Value).ownBlock ∧ (k_ ≠ b5 ∧ (k_ ≠ a7 ∧ (k_ ≠ a0 ∧ (h6 k_ ∧ (¬ g0 k_ ∧ (¬ e8 k_ ∧ ¬ h4 k_))))))))))) ∧ some k_ ≠ (.slice J4 B0.length J5 : Value).ownBlock) ∧ some k_ ≠ (.slice z5 l9.length z6 : Value).ownBlock) ∧ ¬ A7 k_) ∧ some k_ ≠ (.slice h3 g1.length h2 : Value).ownBlock) ∧ some k_ ≠ (.slice f7 f3.length f5 : Value).ownBlock) ∧ ¬ k2 k_) ∧ k_ ≠ b0)) (n := b4.length) (c := d6) ?_).2.2; exact (by (with_reducible repeat (first | apply Kd.S_alloc | apply Kd.S_drewN | apply Kd.S_drew)); exact (Kd.S_mono (Kd.S_far (p := ⟨b0, 4, none⟩) (Kd.S_far (p := ⟨b0, 3, none⟩) (Kd.S_far (p := ⟨b0, 2, none⟩) (Kd.S_far (p := ⟨b0, 1, none⟩) (Kd.S_far (p := ⟨b0, 0, none⟩) (Kd.S_mono e1.out (fun k_ hk => (⟨hk, hk.2⟩ : _ ∧ k_ ≠ b0))) (fun _ hk => hk.2) (.int .i64 h5)) (fun _ hk => hk.2) (.int .i64 h7)) (fun _ hk => hk.2) (.string h9)) (fun _ hk => hk.2) (.slice h3 g1.length h2)) (fun _ hk => hk.2) (.slice f7 f3.length f5)) (fun _ h_ => h_.1)))); (case s6 => exact (Kd.S_reads' e1.out).2.1); (case s7 => refine (Kd.R_reads' (e := 9) (base := w.heap.size) (ok := fun k_ => (((some k_ ≠ (.slice a6 e2.length a5 : Value).ownBlock ∧ (some k_ ≠ (.slice a4 f2.length a3 : Value).ownBlock ∧ h6 k_)) ∧ some k_ ≠ (.slice z5 l9.length z6 : Value).ownBlock) ∧ some k_ ≠ (.slice f7 f3.length f5 : Value).ownBlock)) (n := a2.length) (c := a8) ?_).2.2; exact (zR (zr5 d7.out h8.out))); (case s8 => exact (Kd.R_reads' d7.out).2.1); rintro e a6h ⟨rfl, hb⟩; refine ⟨_, rfl, ?_⟩; replace e1 := zA (Kd.S_below (by (with_reducible repeat (first | apply Kd.S_alloc | apply Kd.S_drewN | apply Kd.S_drew)); exact (Kd.S_mono (Kd.S_far (p := ⟨b0, 4, none⟩) (Kd.S_far (p := ⟨b0, 3, none⟩) (Kd.S_far (p := ⟨b0, 2, none⟩) (Kd.S_far (p := ⟨b0, 1, none⟩) (Kd.S_far (p := ⟨b0, 0, none⟩) (Kd.S_mono e1.out (fun k_ hk => (⟨hk, hk.2⟩ : _ ∧ k_ ≠ b0))) (fun _ hk => hk.2) (.int .i64 h5)) (fun _ hk => hk.2) (.int .i64 h7)) (fun _ hk => hk.2) (.string h9)) (fun _ hk => hk.2) (.slice h3 g1.length h2)) (fun _ hk => hk.2) (.slice f7 f3.length f5)) (fun _ h_ => h_.1))) hb); replace d7 := zA (Kd.R_below (zR (zr5 d7.out h8.out)) hb); replace e5 := zA (Kd.S_below (by (with_reducible repeat (first | apply Kd.S_alloc | apply Kd.S_drewN | apply Kd.S_drew)); exact (Kd.S_mono (Kd.S_far (p := ⟨b0, 4, none⟩) (Kd.S_far (p := ⟨b0, 3, none⟩) (Kd.S_far (p := ⟨b0, 2, none⟩) (Kd.S_far (p := ⟨b0, 1, none⟩) (Kd.S_far (p := ⟨b0, 0, none⟩) (Kd.S_mono e5.out (fun k_ hk => (⟨hk, hk.2⟩ : _ ∧ k_ ≠ b0))) (fun _ hk => hk.2) (.int .i64 h5)) (fun _ hk => hk.2) (.int .i64 h7)) (fun _ hk => hk.2) (.string h9)) (fun _ hk => hk.2) (.slice h3 g1.length h2)) (fun _ hk => hk.2) (.slice f7 f3.length f5)) (fun _ h_ => h_.1))) hb); replace d8 := zA (Kd.R_below (zR (zr5 d8.out h8.out)) hb); replace d9 := zA (Kd.S_below (by (with_reducible repeat (first | apply Kd.S_alloc | apply Kd.S_drewN | apply Kd.S_drew)); exact (Kd.S_mono (Kd.S_far (p := ⟨b0, 4, none⟩) (Kd.S_far (p := ⟨b0, 3, none⟩) (Kd.S_far (p := ⟨b0, 2, none⟩) (Kd.S_far (p := ⟨b0, 1, none⟩) (Kd.S_far (p := ⟨b0, 0, none⟩) (Kd.S_mono d9.out (fun k_ hk => (⟨hk, hk.2⟩ : _ ∧ k_ ≠ b0))) (fun _ hk => hk.2) (.int .i64 h5)) (fun _ hk => hk.2) (.int .i64 h7)) (fun _ hk => hk.2) (.string h9)) (fun _ hk => hk.2) (.slice h3 g1.length h2)) (fun _ hk => hk.2) (.slice f7 f3.length f5)) (fun _ h_ => h_.1))) hb); replace d1 := zA (Kd.R_below (zR (zr5 d1.out h8.out)) hb); replace l3 := zA (Kd.S_below (by (with_reducible repeat (first | apply Kd.S_alloc | apply Kd.S_drewN | apply Kd.S_drew)); exact (Kd.S_mono (Kd.S_far (p := ⟨b0, 4, none⟩) (Kd.S_far (p := ⟨b0, 3, none⟩) (Kd.S_far (p := ⟨b0, 2, none⟩) (Kd.S_far (p := ⟨b0, 1, none⟩) (Kd.S_far (p := ⟨b0, 0, none⟩) (Kd.S_mono l3.out (fun k_ hk => (⟨hk, hk.2⟩ : _ ∧ k_ ≠ b0))) (fun _ hk => hk.2) (.int .i64 h5)) (fun _ hk => hk.2) (.int .i64 h7)) (fun _ hk => hk.2) (.string h9)) (fun _ hk => hk.2) (.slice h3 g1.length h2)) (fun _ hk => hk.2) (.slice f7 f3.length f5)) (fun _ h_ => h_.1))) hb); replace k9 := zA (Kd.R_below (zR (zr5 k9.out h8.out)) hb); replace l0 := zA (Kd.S_below (by (with_reducible repeat (first | apply Kd.S_alloc | apply Kd.S_drewN | apply Kd.S_drew)); exact (Kd.S_mono (Kd.S_far (p := ⟨b0, 4, none⟩) (Kd.S_far (p := ⟨b0, 3, none⟩) (Kd.S_far (p := ⟨b0, 2, none⟩) (Kd.S_far (p := ⟨b0, 1, none⟩) (Kd.S_far (p := ⟨b0, 0, none⟩) (Kd.S_mono l0.out (fun k_ hk => (⟨hk, hk.2⟩ : _ ∧ k_ ≠ b0))) (fun _ hk => hk.2) (.int .i64 h5)) (fun _ hk => hk.2) (.int .i64 h7)) (fun _ hk => hk.2) (.string h9)) (fun _ hk => hk.2) (.slice h3 g1.length h2)) (fun _ hk => hk.2) (.slice f7 f3.length f5)) (fun _ h_ => h_.1))) hb); replace l1 := zA (Kd.R_below (zR (zr5 l1.out h8.out)) hb); replace b2 := zb b2 hb; replace b3 := zb b3 hb; replace b7 := zb b7 hb; replace b6 := zb b6 hb; replace h8 := zA (blk_below (g := b0) (o := .cells #[.int .i64 h5, .int .i64 h7, .string h9, .slice h3 g1.length h2, .slice f7 f3.length f5] 29 (0, 0)) (by (with_reducible repeat (first | refine blk_drewN ?_ _ | refine blk_drew ?_ | refine blk_alloc ?_ _)); refine blk_put (cs := #[.int .i64 h5, .int .i64 h7, .string h9, .slice h3 g1.length h2, .slice none 0 0]) ?_ 4 _ rfl; (with_reducible repeat (first | refine blk_drewN ?_ _ | refine blk_drew ?_ | refine blk_alloc ?_ _)); refine blk_put (cs := #[.int .i64 h5, .int .i64 h7, .string h9, .slice none 0 0, .slice none 0 0]) ?_ 3 _ rfl; (with_reducible repeat (first | refine blk_drewN ?_ _ | refine blk_drew ?_ | refine blk_alloc ?_ _)); refine blk_put (cs := #[.int .i64 h5, .int .i64 h7, .string (⟨#[]⟩ : ByteArray), .slice none 0 0, .slice none 0 0]) ?_ 2 _ rfl; (with_reducible repeat (first | refine blk_drewN ?_ _ | refine blk_drew ?_ | refine blk_alloc ?_ _)); refine blk_put (cs := #[.int .i64 h5, .int .i64 0, .string (⟨#[]⟩ : ByteArray), .slice none 0 0, .slice none 0 0]) ?_ 1 _ rfl; (with_reducible repeat (first | refine blk_drewN ?_ _ | refine blk_drew ?_ | refine blk_alloc ?_ _)); refine blk_put (cs := #[.int .i64 0, .int .i64 0, .string (⟨#[]⟩ : ByteArray), .slice none 0 0, .slice none 0 0]) ?_ 0 _ rfl; (with_reducible repeat (first | refine blk_drewN ?_ _ | refine blk_drew ?_ | refine blk_alloc ?_ _)); exact h8.out) hb); replace HB := zh HB hb; (try clear hb)))
                    go_meet
                    case rel => exact ⟨_, (true), zS, (by first | exact H' | (subst_vars; exact H')), ⟨by have := k4.out; have := k5.out; have := l7.out; have := n0.out; have := z4.out; have := G7.out; have := J0.out; have := M8.out; have := Q0.out; first | omega | exact Nat.le_refl _⟩, ⟨by (try simp only [b8]); (try simp only [b9]); (try simp only [e3]); (try simp only [e4]); (with_reducible repeat (first | apply Kd.S_alloc | apply Kd.S_drewN | apply Kd.S_drew)); exact Kd.S_mono e1.out (fun _ hk => ⟨hk.1.1.1.1.1.1.1.1, ⟨hk.1.1.1.1.1.1.1.2.1, ⟨hk.1.1.1.1.1.1.1.2.2.1, ⟨hk.1.1.1.1.1.1.1.2.2.2.1, ⟨hk.1.1.1.1.1.1.1.2.2.2.2.1, ⟨hk.1.1.1.2, ⟨hk.1.1.2, ⟨hk.1.1.1.1.1.1.1.2.2.2.2.2.1, ⟨hk.1.1.1.1.1.1.1.2.2.2.2.2.2.1, ⟨hk.1.1.1.1.1.1.1.2.2.2.2.2.2.2.1, ⟨hk.2, ⟨hk.1.1.1.1.1.1.1.2.2.2.2.2.2.2.2.1, ⟨hk.1.1.1.1.1.1.1.2.2.2.2.2.2.2.2.2.1, ⟨hk.1.1.1.1.1.1.1.2.2.2.2.2.2.2.2.2.2.1, ⟨hk.1.1.1.1.1.1.1.2.2.2.2.2.2.2.2.2.2.2, ⟨hk.1.1.1.1.2, hk.1.2⟩⟩⟩⟩⟩⟩⟩⟩⟩⟩⟩⟩⟩⟩⟩⟩)⟩, ⟨by (try simp only [b8]); (try simp only [b9]); (try simp only [e3]); (try simp only [e4]); (with_reducible repeat (first | apply Kd.R_alloc | apply Kd.R_drewN | apply Kd.R_drew)); exact Kd.R_mono d7.out (fun _ hk => ⟨hk.1.1.1, ⟨hk.1.1.2.1, ⟨hk.2, hk.1.1.2.2⟩⟩⟩)⟩, ⟨by (try simp only [b8]); (try simp only [b9]); (try simp only [e3]); (try simp only [e4]); (with_reducible repeat (first | apply Kd.S_alloc | apply Kd.S_drewN | apply Kd.S_drew)); exact Kd.S_mono e5.out (fun _ hk => ⟨hk.1.1.1.1.1.1.1.1, ⟨hk.1.1.1.1.1.1.1.2.1, ⟨hk.1.1.1.1.1.1.1.2.2.1, ⟨hk.1.1.1.1.1.1.1.2.2.2.1, ⟨hk.1.1.1.1.1.1.1.2.2.2.2.1, ⟨hk.1.1.1.2, ⟨hk.1.1.2, ⟨hk.1.1.1.1.1.1.1.2.2.2.2.2.1, ⟨hk.1.1.1.1.1.1.1.2.2.2.2.2.2.1, ⟨hk.1.1.1.1.1.1.1.2.2.2.2.2.2.2.1, ⟨hk.2, ⟨hk.1.1.1.1.1.1.1.2.2.2.2.2.2.2.2.1, ⟨hk.1.1.1.1.1.1.1.2.2.2.2.2.2.2.2.2.1, ⟨hk.1.1.1.1.1.1.1.2.2.2.2.2.2.2.2.2.2, ⟨hk.1.1.1.1.2, hk.1.2⟩⟩⟩⟩⟩⟩⟩⟩⟩⟩⟩⟩⟩⟩⟩)⟩, ⟨by (try simp only [b8]); (try simp only [b9]); (try simp only [e3]); (try simp only [e4]); (with_reducible repeat (first | apply Kd.R_alloc | apply Kd.R_drewN | apply Kd.R_drew)); exact Kd.R_mono d8.out (fun _ hk => ⟨hk.1.1.1, ⟨hk.1.1.2.1, ⟨hk.2, hk.1.1.2.2⟩⟩⟩)⟩, ⟨by (try simp only [b8]); (try simp only [b9]); (try simp only [e3]); (try simp only [e4]); (with_reducible repeat (first | apply Kd.S_alloc | apply Kd.S_drewN | apply Kd.S_drew)); exact Kd.S_mono d9.out (fun _ hk => ⟨hk.1.1.1.1.1.1.1.1, ⟨hk.1.1.1.1.1.1.1.2.1, ⟨hk.1.1.1.1.1.1.1.2.2.1, ⟨hk.1.1.1.1.1.1.1.2.2.2.1, ⟨hk.1.1.1.1.1.1.1.2.2.2.2.1, ⟨hk.1.1.1.2, ⟨hk.1.1.2, ⟨hk.1.1.1.1.1.1.1.2.2.2.2.2.1, ⟨hk.1.1.1.1.1.1.1.2.2.2.2.2.2.1, ⟨hk.1.1.1.1.1.1.1.2.2.2.2.2.2.2.1, ⟨hk.2, ⟨hk.1.1.1.1.1.1.1.2.2.2.2.2.2.2.2.1, ⟨hk.1.1.1.1.1.1.1.2.2.2.2.2.2.2.2.2, ⟨hk.1.1.1.1.2, hk.1.2⟩⟩⟩⟩⟩⟩⟩⟩⟩⟩⟩⟩⟩⟩)⟩, ⟨by (try simp only [b8]); (try simp only [b9]); (try simp only [e3]); (try simp only [e4]); (with_reducible repeat (first | apply Kd.R_alloc | apply Kd.R_drewN | apply Kd.R_drew)); exact Kd.R_mono d1.out (fun _ hk => ⟨hk.1.1.1, ⟨hk.1.1.2.1, ⟨hk.2, hk.1.1.2.2⟩⟩⟩)⟩, ⟨by (try simp only [b8]); (try simp only [b9]); (try simp only [e3]); (try simp only [e4]); (with_reducible repeat (first | apply Kd.S_alloc | apply Kd.S_drewN | apply Kd.S_drew)); exact Kd.S_mono l0.out (fun _ hk => ⟨hk.1.1.1.1.1.1.1.1.1.1.1.2, ⟨hk.1.1.1.1.1.1.1.1.1.1.2, ⟨hk.1.1.1.1.1.1.1.1.1.2, ⟨hk.1.1.1.1.1.1.1.1.2, ⟨hk.1.1.1.1.1.1.1.2, ⟨hk.1.1.1.1.1.1.2, ⟨hk.1.1.1.1.1.1.1.1.1.1.1.1.1, ⟨hk.1.1.1.2, ⟨hk.1.1.2, ⟨hk.1.2, ⟨hk.2, hk.1.1.1.1.1.1.1.1.1.1.1.1.2⟩⟩⟩⟩⟩⟩⟩⟩⟩⟩⟩)⟩, ⟨by (try simp only [b8]); (try simp only [b9]); (try simp only [e3]); (try simp only [e4]); (with_reducible repeat (first | apply Kd.R_alloc | apply Kd.R_drewN | apply Kd.R_drew)); exact Kd.R_mono l1.out (fun _ hk => ⟨hk.1.1.1.2, ⟨hk.1.1.2, ⟨hk.1.2, hk.1.1.1.1.2⟩⟩⟩)⟩, ⟨by (try simp only [b8]); (try simp only [b9]); (try simp only [e3]); (try simp only [e4]); (with_reducible repeat (first | refine blk_drewN ?_ _ | refine blk_drew ?_ | refine blk_alloc ?_ _)); exact b2.out⟩, ⟨by (try simp only [b8]); (try simp only [b9]); (try simp only [e3]); (try simp only [e4]); (with_reducible repeat (first | refine blk_drewN ?_ _ | refine blk_drew ?_ | refine blk_alloc ?_ _)); exact b3.out⟩, ⟨by (try simp only [b8]); (try simp only [b9]); (try simp only [e3]); (try simp only [e4]); (with_reducible repeat (first | refine blk_drewN ?_ _ | refine blk_drew ?_ | refine blk_alloc ?_ _)); exact b7.out⟩, ⟨by (try simp only [b8]); (try simp only [b9]); (try simp only [e3]); (try simp only [e4]); (with_reducible repeat (first | refine blk_drewN ?_ _ | refine blk_drew ?_ | refine blk_alloc ?_ _)); exact b6.out⟩, ⟨by (try simp only [b8]); (try simp only [b9]); (try simp only [e3]); (try simp only [e4]); (with_reducible repeat (first | refine blk_drewN ?_ _ | refine blk_drew ?_ | refine blk_alloc ?_ _)); exact h8.out⟩, ⟨zW HB.out⟩⟩
                   case rest =>
                    clear Q4
                    try clear c1
                    try clear c2
                    try clear p2
                    try clear c3
                    try clear c4
                    try clear c5
                    try clear k0
                    try clear l2
                    try clear c6
                    try clear c7
                    try clear c8
                    try clear c9
                    try clear c10
                    try clear k3
                    try clear c11
                    try clear c12
                    try clear c13
                    try clear c14
                    try clear c15
                    try clear c24
                    try clear c32
                    try clear c33
                    try clear c40
                    try clear c41
                    try clear c42
                    try clear c47
                    try clear c48
                    try clear c49
                    try clear c50
                    try clear c52
                    try clear c53
                    try clear c56
                    try clear c57
                    try clear c58
                    try clear c60
                    try clear c61
                    try clear c65
                    try clear c75
                    try clear c78
                    try clear c79
                    try clear c80
                    try clear c83
                    try clear l8
                    try clear c85
                    try clear c86
                    try clear c87
                    try clear c88
                    try clear c90
                    try clear c91
                    try clear c94
                    try clear c95
                    try clear c96
                    try clear c98
                    try clear c99
                    try clear c103
                    try clear c107
                    try clear c108
                    try clear c109
                    try clear A9
                    try clear G8
                    try clear G9
                    try clear J2
                    try clear P9
                    try clear c120
                    try clear c121
                    try clear c122
                    try clear c131
                    try clear c132
                    try clear c133
                    try clear c134
                    try clear c139
                    try clear c140
                    try clear c141
                    try clear c142
                    try clear c143
                    try clear c145
                    try clear c146
                    try clear c147
                    try clear c150
                    try clear c151
                    try clear c152
                    try clear c153
                    try clear c155
                    try clear c156
                    try clear c157
                    try clear F7 F8 F9 G0 G1 G2 G3 G4 G5 G6
                    try clear J8 J9 L0 L1 L2 L3 L4 L5 L6 L7
                    try clear L8 L9 M0 M1 M2 M3 M4 M5 M6 M7
                    try clear V0 V1 V2 V3 V4 V5 V6 V7 V8 V9
                    try clear X0 X1 X2 X3 X4 X5 X6 X7 X8 X9
                    try clear Y2 Y3 Y4 Y5 Y6 Y7 Y8 Y9 Z0 Z1
                    try clear Z2 Z3 Z4 Z5 Z6 Z7 Z8 Z9 a00 a01
                    try clear a02 a03 a04 a05 a06 a07 a08 a09 a0a a0b
                    try clear a0c a0d a0e a0f a0g a0h a0i a0j a0k a0l
                    try clear n1 n2 n3 n4 n5 n6 n7 n8 n9 o0
                    try clear o1 o2 o3 o4 o5 o6 o7 o8 o9 p0
                    try clear p1 p3 p4 p5 p6 p7 p8 p9 q0 q1
                    try clear q2 q3 q4 q5 q6 q7 q8 q9 r0 r1
                    try clear r4 r5 r6 r7 r8 r9 t0 t1 t2 t3
                    try clear t4 t5 t6 t7 t8 t9 v0 v1 v2 v3
                    try clear v4 v5 v6 v7 v8 v9 x0 x1 x2 x3
                    try clear x4 x5 x6 x7 x8 x9 y0 y1 y2 y3
                    try clear y4 y5 y6 y7 y8 y9 z0 z1 z2 z3
                    try clear B7 B8 B9 C0 C1 C2 C3 C4 C5 C6
                    try clear C7 C8 C9 D0 D1 D2 D3 D4 D5 D6
                    try clear m0 m1 m2 m3 m4 m5 m6 m7 m8 m9
                    try clear D7 D8 D9 E0 E1 E2 E3 E4 E5 E6
                    try clear E7 E8 E9 F0 F1 F2 F3 F4 F5 F6
                    try clear p2
                    obtain ⟨kq, R1, rfl, HA, a1p, e1, d7, e5, d8, d9, d1, N1, N2, b2, b3, b7, b6, h8, HB⟩ := hcut
                    cases kq with
                    | zero => exact absurd HA.out (by simp [laws_FnExactAtKey.j9])
                    | succ a1q =>
                     have H := HA.out; clear HA; simp only [laws_FnExactAtKey.j9] at H; have R2 := zA H; clear H
                     go_upto_if 95 with (fail)
                     go_cut [] (fun wc => ∃ (kq : Nat), Aside0 (laws_FnExactAtKey.j10 kq J1 e6 e7 e9 g8 f2 = some r) ∧ Aside0 (kq ≤ a1q) ∧ Aside0 (Kd.S k29 29 wc w.heap.size (fun k_ => some k_ ≠ ((.slice a9 a2.length a8) : Value).ownBlock ∧ some k_ ≠ ((.slice d5 g3.length d3) : Value).ownBlock ∧ some k_ ≠ ((.slice a6 e2.length a5) : Value).ownBlock ∧ some k_ ≠ ((.slice d0 g8.length c0) : Value).ownBlock ∧ some k_ ≠ ((.slice a4 f2.length a3) : Value).ownBlock ∧ some k_ ≠ ((.slice h3 g1.length h2) : Value).ownBlock ∧ some k_ ≠ ((.slice f7 f3.length f5) : Value).ownBlock ∧ k_ ≠ b5 ∧ k_ ≠ a7 ∧ k_ ≠ a0 ∧ k_ ≠ b0 ∧ h6 k_ ∧ ¬ g0 k_ ∧ ¬ e8 k_ ∧ ¬ h4 k_ ∧ ¬ A7 k_ ∧ ¬ k2 k_) (.slice e0 b4.length d6) b4) ∧ Aside0 (Kd.R Kd.string 9 wc w.heap.size (fun k_ => some k_ ≠ ((.slice a6 e2.length a5) : Value).ownBlock ∧ some k_ ≠ ((.slice a4 f2.length a3) : Value).ownBlock ∧ some k_ ≠ ((.slice f7 f3.length f5) : Value).ownBlock ∧ h6 k_) (.slice a9 a2.length a8) a2) ∧ Aside0 (Kd.S k29 29 wc w.heap.size (fun k_ => some k_ ≠ ((.slice e0 b4.length d6) : Value).ownBlock ∧ some k_ ≠ ((.slice a9 a2.length a8) : Value).ownBlock ∧ some k_ ≠ ((.slice a6 e2.length a5) : Value).ownBlock ∧ some k_ ≠ ((.slice d0 g8.length c0) : Value).ownBlock ∧ some k_ ≠ ((.slice a4 f2.length a3) : Value).ownBlock ∧ some k_ ≠ ((.slice h3 g1.length h2) : Value).ownBlock ∧ some k_ ≠ ((.slice f7 f3.length f5) : Value).ownBlock ∧ k_ ≠ b5 ∧ k_ ≠ a7 ∧ k_ ≠ a0 ∧ k_ ≠ b0 ∧ g0 k_ ∧ ¬ e8 k_ ∧ ¬ h4 k_ ∧ ¬ A7 k_ ∧ ¬ k2 k_) (.slice d5 g3.length d3) g3) ∧ Aside0 (Kd.R Kd.string 9 wc w.heap.size (fun k_ => some k_ ≠ ((.slice a9 a2.length a8) : Value).ownBlock ∧ some k_ ≠ ((.slice a4 f2.length a3) : Value).ownBlock ∧ some k_ ≠ ((.slice f7 f3.length f5) : Value).ownBlock ∧ g0 k_) (.slice a6 e2.length a5) e2) ∧ Aside0 (Kd.S k29 29 wc w.heap.size (fun k_ => some k_ ≠ ((.slice e0 b4.length d6) : Value).ownBlock ∧ some k_ ≠ ((.slice a9 a2.length a8) : Value).ownBlock ∧ some k_ ≠ ((.slice d5 g3.length d3) : Value).ownBlock ∧ some k_ ≠ ((.slice a6 e2.length a5) : Value).ownBlock ∧ some k_ ≠ ((.slice a4 f2.length a3) : Value).ownBlock ∧ some k_ ≠ ((.slice h3 g1.length h2) : Value).ownBlock ∧ some k_ ≠ ((.slice f7 f3.length f5) : Value).ownBlock ∧ k_ ≠ b5 ∧ k_ ≠ a7 ∧ k_ ≠ a0 ∧ k_ ≠ b0 ∧ e8 k_ ∧ ¬ h4 k_ ∧ ¬ A7 k_ ∧ ¬ k2 k_) (.slice d0 g8.length c0) g8) ∧ Aside0 (Kd.R Kd.string 9 wc w.heap.size (fun k_ => some k_ ≠ ((.slice a9 a2.length a8) : Value).ownBlock ∧ some k_ ≠ ((.slice a6 e2.length a5) : Value).ownBlock ∧ some k_ ≠ ((.slice f7 f3.length f5) : Value).ownBlock ∧ e8 k_) (.slice a4 f2.length a3) f2) ∧ Aside0 (Kd.S k29 29 wc w.heap.size (fun k_ => some k_ ≠ ((.slice e0 b4.length d6) : Value).ownBlock ∧ some k_ ≠ ((.slice a9 a2.length a8) : Value).ownBlock ∧ some k_ ≠ ((.slice d5 g3.length d3) : Value).ownBlock ∧ some k_ ≠ ((.slice a6 e2.length a5) : Value).ownBlock ∧ some k_ ≠ ((.slice d0 g8.length c0) : Value).ownBlock ∧ some k_ ≠ ((.slice a4 f2.length a3) : Value).ownBlock ∧ some k_ ≠ ((.slice f7 f3.length f5) : Value).ownBlock ∧ k_ ≠ b5 ∧ k_ ≠ a7 ∧ k_ ≠ a0 ∧ k_ ≠ b0 ∧ k2 k_) (.slice h3 g1.length h2) g1) ∧ Aside0 (Kd.R Kd.string 9 wc w.heap.size (fun k_ => some k_ ≠ ((.slice a9 a2.length a8) : Value).ownBlock ∧ some k_ ≠ ((.slice a6 e2.length a5) : Value).ownBlock ∧ some k_ ≠ ((.slice a4 f2.length a3) : Value).ownBlock ∧ k2 k_) (.slice f7 f3.length f5) f3) ∧ Aside0 (wc.heap[i8]? = some (.cells #[.int .i64 g9, .int .i64 h0, .string h1, (.slice i4 g4.length i5), (.slice i6 g5.length i7)] 25 (0, 0))) ∧ Aside0 (wc.heap[b5]? = some (.cells #[.int .i64 f4, .int .i64 f6, .string f8, (.slice e0 b4.length d6), (.slice a9 a2.length a8)] 29 (0, 0))) ∧ Aside0 (wc.heap[a7]? = some (.cells #[.int .i64 f9, .int .i64 g2, .string g6, (.slice d5 g3.length d3), (.slice a6 e2.length a5)] 29 (0, 0))) ∧ Aside0 (wc.heap[a0]? = some (.cells #[.int .i64 e6, .int .i64 e7, .string e9, (.slice d0 g8.length c0), (.slice a4 f2.length a3)] 29 (0, 0))) ∧ Aside0 (wc.heap[b0]? = some (.cells #[.int .i64 h5, .int .i64 h7, .string h9, (.slice h3 g1.length h2), (.slice f7 f3.length f5)] 29 (0, 0))) ∧ Aside0 (Below w.heap.size w wc))
                     case first =>
                      have H := R2.out; clear R2; replace H := zB0 H
                      rcases H with ⟨rfl, H⟩ | ⟨rfl, H⟩
                      ·exact absurd H (by simp)
                      have H' := zA H; clear H
                      go_wp2
                      go_meet
                      case rel => exact ⟨_, (by first | exact H' | (subst_vars; exact H')), ⟨by have := k4.out; have := k5.out; have := l7.out; have := n0.out; have := z4.out; have := G7.out; have := J0.out; have := M8.out; have := Q0.out; have := a1p.out; first | omega | exact Nat.le_refl _⟩, ⟨by (try simp only [b8]); (try simp only [b9]); (try simp only [e3]); (try simp only [e4]); (with_reducible repeat (first | apply Kd.S_alloc | apply Kd.S_drewN | apply Kd.S_drew)); exact e1.out⟩, ⟨by (try simp only [b8]); (try simp only [b9]); (try simp only [e3]); (try simp only [e4]); (with_reducible repeat (first | apply Kd.R_alloc | apply Kd.R_drewN | apply Kd.R_drew)); exact d7.out⟩, ⟨by (try simp only [b8]); (try simp only [b9]); (try simp only [e3]); (try simp only [e4]); (with_reducible repeat (first | apply Kd.S_alloc | apply Kd.S_drewN | apply Kd.S_drew)); exact e5.out⟩, ⟨by (try simp only [b8]); (try simp only [b9]); (try simp only [e3]); (try simp only [e4]); (with_reducible repeat (first | apply Kd.R_alloc | apply Kd.R_drewN | apply Kd.R_drew)); exact d8.out⟩, ⟨by (try simp only [b8]); (try simp only [b9]); (try simp only [e3]); (try simp only [e4]); (with_reducible repeat (first | apply Kd.S_alloc | apply Kd.S_drewN | apply Kd.S_drew)); exact d9.out⟩, ⟨by (try simp only [b8]); (try simp only [b9]); (try simp only [e3]); (try simp only [e4]); (with_reducible repeat (first | apply Kd.R_alloc | apply Kd.R_drewN | apply Kd.R_drew)); exact d1.out⟩, ⟨by (try simp only [b8]); (try simp only [b9]); (try simp only [e3]); (try simp only [e4]); (with_reducible repeat (first | apply Kd.S_alloc | apply Kd.S_drewN | apply Kd.S_drew)); exact N1.out⟩, ⟨by (try simp only [b8]); (try simp only [b9]); (try simp only [e3]); (try simp only [e4]); (with_reducible repeat (first | apply Kd.R_alloc | apply Kd.R_drewN | apply Kd.R_drew)); exact N2.out⟩, ⟨by (try simp only [b8]); (try simp only [b9]); (try simp only [e3]); (try simp only [e4]); (with_reducible repeat (first | refine blk_drewN ?_ _ | refine blk_drew ?_ | refine blk_alloc ?_ _)); exact b2.out⟩, ⟨by (try simp only [b8]); (try simp only [b9]); (try simp only [e3]); (try simp only [e4]); (with_reducible repeat (first | refine blk_drewN ?_ _ | refine blk_drew ?_ | refine blk_alloc ?_ _)); exact b3.out⟩, ⟨by (try simp only [b8]); (try simp only [b9]); (try simp only [e3]); (try simp only [e4]); (with_reducible repeat (first | refine blk_drewN ?_ _ | refine blk_drew ?_ | refine blk_alloc ?_ _)); exact b7.out⟩, ⟨by (try simp only [b8]); (try simp only [b9]); (try simp only [e3]); (try simp only [e4]); (with_reducible repeat (first | refine blk_drewN ?_ _ | refine blk_drew ?_ | refine blk_alloc ?_ _)); exact b6.out⟩, ⟨by (try simp only [b8]); (try simp only [b9]); (try simp only [e3]); (try simp only [e4]); (with_reducible repeat (first | refine blk_drewN ?_ _ | refine blk_drew ?_ | refine blk_alloc ?_ _)); exact h8.out⟩, ⟨zW HB.out⟩⟩
                     case rest =>
                      clear R2
                      try clear c1
                      try clear c2
                      try clear p2
                      try clear c3
                      try clear c4
                      try clear c5
                      try clear k0
                      try clear l2
                      try clear c6
                      try clear c7
                      try clear c8
                      try clear c9
                      try clear c10
                      try clear k3
                      try clear c11
                      try clear c12
                      try clear c13
                      try clear c14
                      try clear c15
                      try clear c16
                      try clear c24
                      try clear c32
                      try clear c33
                      try clear c40
                      try clear c41
                      try clear c42
                      try clear c47
                      try clear c48
                      try clear c49
                      try clear c50
                      try clear c52
                      try clear c53
                      try clear c56
                      try clear c57
                      try clear c58
                      try clear c60
                      try clear c61
                      try clear c65
                      try clear c75
                      try clear c78
                      try clear c79
                      try clear c80
                      try clear c83
                      try clear l8
                      try clear c85
                      try clear c86
                      try clear c87
                      try clear c88
                      try clear c90
                      try clear c91
                      try clear c94
                      try clear c95
                      try clear c96
                      try clear c98
                      try clear c99
                      try clear c103
                      try clear c107
                      try clear c108
                      try clear c109
                      try clear A9
                      try clear G8
                      try clear G9
                      try clear J2
                      try clear P9
                      try clear c120
                      try clear c121
                      try clear c122
                      try clear c131
                      try clear c132
                      try clear c133
                      try clear c134
                      try clear c139
                      try clear c140
                      try clear c141
                      try clear c142
                      try clear c143
                      try clear c145
                      try clear c146
                      try clear c147
                      try clear c150
                      try clear c151
                      try clear c152
                      try clear c153
                      try clear c155
                      try clear c156
                      try clear c157
                      try clear c161
                      try clear F7 F8 F9 G0 G1 G2 G3 G4 G5 G6
                      try clear J8 J9 L0 L1 L2 L3 L4 L5 L6 L7
                      try clear L8 L9 M0 M1 M2 M3 M4 M5 M6 M7
                      try clear V0 V1 V2 V3 V4 V5 V6 V7 V8 V9
                      try clear X0 X1 X2 X3 X4 X5 X6 X7 X8 X9
                      try clear Y2 Y3 Y4 Y5 Y6 Y7 Y8 Y9 Z0 Z1
                      try clear Z2 Z3 Z4 Z5 Z6 Z7 Z8 Z9 a00 a01
                      try clear a02 a03 a04 a05 a06 a07 a08 a09 a0a a0b
                      try clear a0c a0d a0e a0f a0g a0h a0i a0j a0k a0l
                      try clear n1 n2 n3 n4 n5 n6 n7 n8 n9 o0
                      try clear o1 o2 o3 o4 o5 o6 o7 o8 o9 p0
                      try clear p1 p3 p4 p5 p6 p7 p8 p9 q0 q1
                      try clear q2 q3 q4 q5 q6 q7 q8 q9 r0 r1
                      try clear r4 r5 r6 r7 r8 r9 t0 t1 t2 t3
                      try clear t4 t5 t6 t7 t8 t9 v0 v1 v2 v3
                      try clear v4 v5 v6 v7 v8 v9 x0 x1 x2 x3
                      try clear x4 x5 x6 x7 x8 x9 y0 y1 y2 y3
                      try clear y4 y5 y6 y7 y8 y9 z0 z1 z2 z3
                      try clear B7 B8 B9 C0 C1 C2 C3 C4 C5 C6
                      try clear C7 C8 C9 D0 D1 D2 D3 D4 D5 D6
                      try clear m0 m1 m2 m3 m4 m5 m6 m7 m8 m9
                      try clear D7 D8 D9 E0 E1 E2 E3 E4 E5 E6
                      try clear E7 E8 E9 F0 F1 F2 F3 F4 F5 F6
                      try clear p2
                      obtain ⟨kq, HA, a6i, e1, d7, e5, d8, d9, d1, N1, N2, b2, b3, b7, b6, h8, HB⟩ := hcut
                      cases kq with
                      | zero => exact absurd HA.out (by simp [laws_FnExactAtKey.j10])
                      | succ a1r =>
                       have H := HA.out; clear HA; simp only [laws_FnExactAtKey.j10] at H; replace H := Option.bind_eq_some_iff.mp H; obtain ⟨a1s, a0m, H⟩ := H
                       try dsimp only at H
                       have a1t := zA a0m; clear a0m; replace H := zI1 H
                       rcases H with ⟨R3, H⟩ | ⟨R3, H⟩
                       ·exact absurd H (by simp)
                       have a6j := decide_eq_false R3; clear R3; replace H := zC0 H; obtain ⟨R4, H⟩ := H; have a6k := beq_iff_eq.mpr R4; have a6l := bne_eq_false_iff_eq.mpr R4; clear R4; obtain rfl := zm H; have a6m := A3.out; have a6n := A2.out; have a6o := r3.out; have a6p := r2.out; have a6q := A5.out; have a6r := A4.out; have a6s := M9.out; have a6t := N0.out; obtain ⟨a6v, a6x, a6y, a6z, a70, a71, a72, a73, a74, a75⟩ := ze5 b6.out
                       go_wp2_with (first | ((with_reducible refine zq 12 ?_); refine zg (some 98) Try.func12 #[.agg #[.int .i64 e6, .int .i64 e7, .string e9, .slice d0 g8.length c0, .slice a4 f2.length a3], .int .i64 1] ?_; (with_reducible refine (laws_heldVal.calls a1r e6 e7 e9 _ _ g8 _ _ f2 1 a1s _ ?s1 ?s2 ?s3 ?s4 a1t.out).mono ?_); (case s1 => exact zC (Kd.S_reads' d9.out).2.2); (case s2 => exact (Kd.S_reads' d9.out).2.1); (case s3 => exact zC (Kd.R_reads' d1.out).2.2); (case s4 => exact (Kd.R_reads' d1.out).2.1); rintro e a76 ⟨rfl, hb⟩; refine ⟨_, rfl, ?_⟩; replace e1 := zA (Kd.S_below (by (with_reducible repeat (first | apply Kd.S_alloc | apply Kd.S_drewN | apply Kd.S_drew)); exact e1.out) hb); replace d7 := zr d7 hb; replace e5 := zA (Kd.S_below (by (with_reducible repeat (first | apply Kd.S_alloc | apply Kd.S_drewN | apply Kd.S_drew)); exact e5.out) hb); replace d8 := zr d8 hb; replace d9 := zA (Kd.S_below (by (with_reducible repeat (first | apply Kd.S_alloc | apply Kd.S_drewN | apply Kd.S_drew)); exact d9.out) hb); replace d1 := zr d1 hb; replace N1 := zA (Kd.S_below (by (with_reducible repeat (first | apply Kd.S_alloc | apply Kd.S_drewN | apply Kd.S_drew)); exact N1.out) hb); replace N2 := zr N2 hb; replace b2 := zb b2 hb; replace b3 := zb b3 hb; replace b7 := zb b7 hb; replace b6 := zb b6 hb; replace h8 := zb h8 hb; replace HB := zh HB hb; (try clear hb)))
                       go_ret
                       exact ⟨zE, zW HB.out⟩
end Go.Proofs.Ytglhniiabhknoaa.PGA
