/- The walks of the functions that these laws reach, and what each comes to: printed by this session's program. -/
import Derived.Test.YtpcdhoeoefoeoaaGreatDoorZGDPGDx0
import Derived.Test.YtpcdhoeoefoeoaaGreatDoorZGDPGDx1
import Derived.Test.YtpcdhoeoefoeoaaGreatDoorZGDPGDx8
import Derived.Test.YtpcdhoeoefoeoaaGreatDoorZGDSays
import Derived.Test.YtpcdhoeoefoeoaaGreatDoorZGDRegs
namespace Go.Proofs.YtpcdhoeoefoeoaaGreatDoor.PGD
open Go.RowKit YtpcdhoeoefoeoaaGreatDoorW.PrintWords YtpcdhoeoefoeoaaGreatDoorW.PrintLast YtpcdhoeoefoeoaaGreatDoorW.PrintMore
attribute [local go_sem high] Mine.str_gtr Mine.str_leq Mine.str_geq
attribute [local go_sem] max2_int min2_int max_two min_two max_three min_three max_four min_four   -- for this text's walks alone
set_option linter.unusedVariables false
set_option maxHeartbeats 8000000
set_option maxRecDepth 100000
set_option linter.unusedSimpArgs false
/-! ### spec_RegOk: function 22 -/
mutual
def spec_RegOk.l0 : Nat → List (S102) → Int → Option (Bool)
 | 0, _, _ => none
 | k + 1, x0, x3 => if x3 < (x0.length : Int) then (spec_RegOk.j1 k x0 x3) else (some (decide ((x0.length : Int) ≤ 12)))
def spec_RegOk.j1 : Nat → List (S102) → Int → Option (Bool)
 | 0, _, _ => none
 | k + 1, x0, x3 => if 0 ≤ x3 then (if x3 < (x0.length : Int) then ((spec_NameOk.f k ((rd_T102 x0 x3).f0)).bind fun a0 => (if a0 = true then ((spec_VerOk.f k ((rd_T102 x0 x3).f1.f0) ((rd_T102 x0 x3).f1.f1) ((rd_T102 x0 x3).f1.f2) ((rd_T102 x0 x3).f1.f3)).bind fun a1 => (if a1 = true then ((spec_l7Needs.f k ((rd_T102 x0 x3).f2)).bind fun a2 => (if a2 = true then (if x3 > 0 then (if 0 ≤ (wrap64 (x3 - 1)) then (if (wrap64 (x3 - 1)) < (x0.length : Int) then ((spec_l8Less.f k ((rd_T102 x0 (wrap64 (x3 - 1))).f0) ((rd_T102 x0 (wrap64 (x3 - 1))).f1.f0) ((rd_T102 x0 (wrap64 (x3 - 1))).f1.f1) ((rd_T102 x0 (wrap64 (x3 - 1))).f1.f2) ((rd_T102 x0 (wrap64 (x3 - 1))).f1.f3) ((rd_T102 x0 (wrap64 (x3 - 1))).f2) ((rd_T102 x0 x3).f0) ((rd_T102 x0 x3).f1.f0) ((rd_T102 x0 x3).f1.f1) ((rd_T102 x0 x3).f1.f2) ((rd_T102 x0 x3).f1.f3) ((rd_T102 x0 x3).f2)).bind fun a3 => (if a3 = true then (spec_RegOk.l0 k x0 (wrap64 (x3 + 1))) else (some false))) else (none)) else (none)) else (spec_RegOk.l0 k x0 (wrap64 (x3 + 1)))) else (some false))) else (some false))) else (some false))) else (none)) else (none)
end
def spec_RegOk.f (k : Nat) (l0 : List (S102)) : Option (Bool) := spec_RegOk.l0 k l0 0
def spec_RegOk.T4 : Bool × List (List Nat × List Nat) := (true, [([], []), ([], []), ([0, 1], [0, 1]), ([2], [2]), ([3], [3]), ([4], [4]), ([5], [5]), ([6, 5], [6]), ([7], [7]), ([7], [7]), ([8, 9, 7], [7, 8, 9]), ([10, 7], [7, 10]), ([11, 7], [7, 11]), ([12, 7, 7], [7, 12]), ([13, 7], [7, 13]), ([7, 14], [7, 14]), ([15, 13], [15]), ([16], [16]), ([16], [16]), ([17, 18, 16], [16, 17, 18]), ([19, 16], [16, 19]), ([20, 16], [16, 20]), ([21, 16, 16], [16, 21]), ([22, 16], [16, 22]), ([16, 23], [16, 23]), ([24, 22], [24]), ([25], [25]), ([26, 25], [25, 26]), ([27, 25, 25], [25, 27]), ([28], [28]), ([28], [28]), ([30, 28], [28, 30]), ([29, 31, 28], [28, 29, 31]), ([32, 28], [28, 32]), ([28], [28]), ([28], [28]), ([34, 35, 28], [28, 34, 35]), ([36, 28], [28, 36]), ([33, 37, 28, 28], [28, 33, 37]), ([38, 28], [28, 38]), ([28, 39, 25], [25, 28, 39]), ([25, 40], [25, 40])])
def spec_RegOk.B4 : List Nat := [0, 0, 3, 7, 15, 31, 63, 127, 255, 255, 1023, 2047, 4095, 8191, 16383, 32767, 65535, 131071, 131071, 524287, 1048575, 2097151, 4194303, 8388607, 16777215, 33554431, 67108863, 134217727, 268435455, 536870911, 536870911, 1610612735, 4294967295, 8589934591, 536870911, 536870911, 52076478463, 120795955199, 274877906943, 549755813887, 1099511627775, 2199023255551]
theorem spec_RegOk.tab4 : rtab .any (opsOf Tryz.f22 4) = spec_RegOk.T4 := by kernel_rfl
theorem spec_RegOk.bits4 : waitsOk spec_RegOk.T4.2 spec_RegOk.B4 = true := by kernel_rfl
theorem spec_RegOk.calls (k : Nat) (A0 : Option Addr) (c0 : Nat) (l0 : List (S102)) (r : Bool) (w : World) (o5 : Kd.C k102 w A0 l0.length l0) (o6 : l0.length ≤ c0) (h : spec_RegOk.f k l0 = some r) :
  Calls Tryz.prog 22 #[.slice A0 l0.length c0] w fun e w' => e = .returned (.bool r) ∧ Below w.heap.size w w' := by
 have r1 := Tryz.underlying32
 have r2 := Tryz.underlying102
 have c7 := zA o5
 have r3 := zA o6
 clear o5 o6
 have HB := zA (Below.refl w.heap.size w)
 unfold spec_RegOk.f at h
 have H := h
 clear h
 have H' := zA H
 clear H
 go_enter Tryz.func22, Tryz.ntmps22
 go_wp2
 go_loopg [3] k (fun kq v3 w' => ∃ (a0 : Int), v3 = .int .i64 a0 ∧ Aside0 (spec_RegOk.l0 kq l0 a0 = some r) ∧ Aside0 (kq ≤ k) ∧ Aside0 (Below w.heap.size w w'))
 case atStart => exact ⟨(0), zS, H', ⟨Nat.le_refl _⟩, ⟨zB⟩⟩
 case round =>
  clear H'
  obtain ⟨a0, rfl, HA, i3, HB⟩ := hrel
  cases gk with
  | zero => exact absurd HA.out (by simp [spec_RegOk.l0])
  | succ k1 =>
   have H := HA.out
   clear HA
   simp only [spec_RegOk.l0] at H
   have m5 := zA H
   clear H
   go_upto_if 7 with (fail)
   go_cut [] (fun wc => ∃ (kq : Nat), Aside0 (spec_RegOk.j1 kq l0 a0 = some r) ∧ Aside0 (kq ≤ k1) ∧ Aside0 (Below w.heap.size w wc))
   case first =>
    have H := m5.out
    clear m5
    replace H := zI0 H
    rcases H with ⟨i2, H⟩ | ⟨i2, H⟩
    ·(first | rw [i2] | (simp only [i64_w, i32_w]; rw [i2]) | skip)
     have H' := zA H
     clear H
     go_wp2
     go_meet
     case rel => exact ⟨_, (by first | exact H' | (subst_vars; exact H')), ⟨by have := i3.out; first | omega | exact Nat.le_refl _⟩, ⟨zB⟩⟩
    ·(first | rw [i2] | (simp only [i64_w, i32_w]; rw [i2]) | skip)
     obtain rfl := zm H
     go_wp2
     go_ret
     exact ⟨zE, zB⟩
   case rest =>
    clear m5
    try clear c2
    try clear p2
    try clear c3
    try clear i2
    obtain ⟨kq, HA, l3, HB⟩ := hcut
    cases kq with
    | zero => exact absurd HA.out (by simp [spec_RegOk.j1])
    | succ c6 =>
     have H := HA.out
     clear HA
     simp only [spec_RegOk.j1] at H
     replace H := zD0 H
     obtain ⟨r4, H⟩ := H
     replace H := zD0 H
     obtain ⟨r5, H⟩ := H
     replace H := Option.bind_eq_some_iff.mp H
     obtain ⟨r6, o7, H⟩ := H
     try dsimp only at H
     have A6 := zA o7
     clear o7
     replace H := zB0 H
     rcases H with ⟨rfl, H⟩ | ⟨rfl, H⟩
     ·replace H := Option.bind_eq_some_iff.mp H
      obtain ⟨r7, o8, H⟩ := H
      try dsimp only at H
      have A8 := zA o8
      clear o8
      replace H := zB0 H
      rcases H with ⟨rfl, H⟩ | ⟨rfl, H⟩
      ·replace H := Option.bind_eq_some_iff.mp H
       obtain ⟨r8, o9, H⟩ := H
       try dsimp only at H
       have i4 := zA o9
       clear o9
       replace H := zB0 H
       rcases H with ⟨rfl, H⟩ | ⟨rfl, H⟩
       ·replace H := zI1 H
        rcases H with ⟨i5, H⟩ | ⟨i5, H⟩
        ·have p4 : decide (0 < a0) = true := decide_eq_true i5
         clear i5
         obtain ⟨a2, f9⟩ : ∃ j_ : Int, (wrap64 (a0 - 1)) = j_ := ⟨_, rfl⟩
         replace H : (if 0 ≤ (a2) then (if (a2) < (l0.length : Int) then ((spec_l8Less.f c6 ((rd_T102 l0 (a2)).f0) ((rd_T102 l0 (a2)).f1.f0) ((rd_T102 l0 (a2)).f1.f1) ((rd_T102 l0 (a2)).f1.f2) ((rd_T102 l0 (a2)).f1.f3) ((rd_T102 l0 (a2)).f2) ((rd_T102 l0 a0).f0) ((rd_T102 l0 a0).f1.f0) ((rd_T102 l0 a0).f1.f1) ((rd_T102 l0 a0).f1.f2) ((rd_T102 l0 a0).f1.f3) ((rd_T102 l0 a0).f2)).bind fun p0 => (if p0 = true then (spec_RegOk.l0 c6 l0 (wrap64 (a0 + 1))) else (some false))) else (none)) else (none)) = some r := by first | (rw [f9] at H; exact H) | (simp only [f9] at H ⊢; exact H)
         (try rw [f9] at A6)
         (try rw [f9] at A8)
         (try rw [f9] at i4)
         have hji13w : (IntKind.i64.wrap (a0 - 1)) = a2 := (i64_w _).trans f9
         replace H := zD0 H
         obtain ⟨r9, H⟩ := H
         replace H := zD0 H
         obtain ⟨t0, H⟩ := H
         replace H := Option.bind_eq_some_iff.mp H
         obtain ⟨p0, p1, H⟩ := H
         try dsimp only at H
         have p3 := zA p1
         clear p1
         replace H := zB0 H
         rcases H with ⟨rfl, H⟩ | ⟨rfl, H⟩
         ·have H' := zA H
          clear H
          try go_wp2
          replace HB := zA (below_drew1 HB.out)
          have b9 : 0 ≤ (a0 : Int) := zD
          have c1 : a0 < (l0.length : Int) := zD
          obtain ⟨a1, a7, a8, b3, b4, e5, a9, b0, b1, b2, a3, a4, d4, d5, d6, d7⟩ := at_T102 c7.out a0 b9 c1
          have i6 := a4
          have i7 := a3
          have i8 := b2
          have i9 := b1
          have j0 := b0
          have j2 := a9
          cases e5
          replace a9 := zx HB a9
          replace b0 := zx HB b0
          replace b1 := zx HB b1
          replace b2 := zx HB b2
          replace a3 := zx HB a3
          replace a4 := zx HB a4
          have e6 := zA d5
          have j3 := zA d4
          clear d5 d4
          have e7 := zA d7
          have j4 := zA d6
          clear d7 d6
          replace b9 := eq_true b9
          replace c1 := eq_true c1
          have c8 : 0 ≤ (a0 : Int) := zD
          have c9 : a0 < (l0.length : Int) := zD
          obtain ⟨g0, l4, l5, l6, l7, g1, b5, b6, b7, b8, a5, a6, e0, e1, e2, e3⟩ := at_T102 c7.out a0 c8 c9
          have l8 := a6
          have l9 := a5
          have m0 := b8
          have m1 := b7
          have m2 := b6
          have m3 := b5
          obtain rfl : a1 = g0 := (by injection g1)
          replace b5 := zx HB b5
          replace b6 := zx HB b6
          replace b7 := zx HB b7
          replace b8 := zx HB b8
          replace a5 := zx HB a5
          replace a6 := zx HB a6
          have e4 := zA e1
          have g2 := zA e0
          clear e1 e0
          have ea_ := Option.some.inj (a3.symm.trans a5)
          injection ea_ with ea_ en_ ec_
          subst ea_
          subst ec_
          clear en_
          have ea_ := Option.some.inj (a4.symm.trans a6)
          injection ea_ with ea_ en_ ec_
          subst ea_
          subst ec_
          clear en_
          have g3 := zA e3
          have m4 := zA e2
          clear e3 e2
          replace c8 := eq_true c8
          replace c9 := eq_true c9
          have ea_ := Option.some.inj (a3.symm.trans a5)
          injection ea_ with ea_ en_ ec_
          (first | subst ea_ | clear ea_)
          (first | subst ec_ | clear ec_)
          clear en_
          have ea_ := Option.some.inj (a4.symm.trans a6)
          injection ea_ with ea_ en_ ec_
          (first | subst ea_ | clear ea_)
          (first | subst ec_ | clear ec_)
          clear en_
          have d8 : 0 ≤ (a0 : Int) := zD
          have d9 : a0 < (l0.length : Int) := zD
          obtain ⟨h4, m6, m7, m8, m9, h5, d0, d1, d2, d3, c4, c5, e8, e9, f4, f5⟩ := at_T102 c7.out a0 d8 d9
          have n0 := c5
          have n1 := c4
          have n2 := d3
          have n3 := d2
          have n4 := d1
          have n5 := d0
          obtain rfl : a1 = h4 := (by injection h5)
          replace d0 := zx HB d0
          replace d1 := zx HB d1
          replace d2 := zx HB d2
          replace d3 := zx HB d3
          replace c4 := zx HB c4
          replace c5 := zx HB c5
          have h6 := zA e9
          have n6 := zA e8
          clear e9 e8
          have ea_ := Option.some.inj (a3.symm.trans c4)
          injection ea_ with ea_ en_ ec_
          subst ea_
          subst ec_
          clear en_
          have ea_ := Option.some.inj (a4.symm.trans c5)
          injection ea_ with ea_ en_ ec_
          subst ea_
          subst ec_
          clear en_
          have f6 := zA f5
          have h7 := zA f4
          clear f5 f4
          replace d8 := eq_true d8
          replace d9 := eq_true d9
          have h8 : 0 ≤ ((a2) : Int) := zD
          have h9 : (a2) < (l0.length : Int) := zD
          obtain ⟨n7, j5, j6, j7, j8, n8, g4, g5, g6, g7, g8, g9, j9, k0, k2, k3⟩ := at_T102 c7.out (a2) h8 h9
          have p5 := g9
          have p6 := g8
          have p7 := g7
          have p8 := g6
          have p9 := g5
          have q0 := g4
          obtain rfl : a1 = n7 := (by injection n8)
          replace g4 := zx HB g4
          replace g5 := zx HB g5
          replace g6 := zx HB g6
          replace g7 := zx HB g7
          replace g8 := zx HB g8
          replace g9 := zx HB g9
          have k4 := zA k0
          have n9 := zA j9
          clear k0 j9
          have k5 := zA k3
          have o0 := zA k2
          clear k3 k2
          replace h8 := eq_true h8
          replace h9 := eq_true h9
          have i0 : 0 ≤ (a0 : Int) := zD
          have i1 : a0 < (l0.length : Int) := zD
          obtain ⟨o1, q1, q2, q3, q4, o2, h0, h1, h2, h3, f7, f8, k6, k7, k8, k9⟩ := at_T102 c7.out a0 i0 i1
          have q5 := f8
          have q6 := f7
          have q7 := h3
          have q8 := h2
          have q9 := h1
          have r0 := h0
          obtain rfl : a1 = o1 := (by injection o2)
          replace h0 := zx HB h0
          replace h1 := zx HB h1
          replace h2 := zx HB h2
          replace h3 := zx HB h3
          replace f7 := zx HB f7
          replace f8 := zx HB f8
          have l1 := zA k7
          have o3 := zA k6
          clear k7 k6
          have ea_ := Option.some.inj (a3.symm.trans f7)
          injection ea_ with ea_ en_ ec_
          subst ea_
          subst ec_
          clear en_
          have ea_ := Option.some.inj (a4.symm.trans f8)
          injection ea_ with ea_ en_ ec_
          subst ea_
          subst ec_
          clear en_
          have l2 := zA k9
          have o4 := zA k8
          clear k9 k8
          replace i0 := eq_true i0
          replace i1 := eq_true i1
          refine start_ (n := 42) (S := fun w' => w'.cell? (a1.add ((a0).toNat * 6)) = some (.string ((rd_T102 l0 a0).f0)) ∧ w'.cell? ⟨(a1.add ((a0).toNat * 6)).block, (a1.add ((a0).toNat * 6)).off + 1, none⟩ = some (.int .i64 ((rd_T102 l0 a0).f1.f0)) ∧ w'.cell? ⟨(a1.add ((a0).toNat * 6)).block, (a1.add ((a0).toNat * 6)).off + 2, none⟩ = some (.int .i64 ((rd_T102 l0 a0).f1.f1)) ∧ w'.cell? ⟨(a1.add ((a0).toNat * 6)).block, (a1.add ((a0).toNat * 6)).off + 3, none⟩ = some (.int .i64 ((rd_T102 l0 a0).f1.f2)) ∧ w'.cell? ⟨(a1.add ((a0).toNat * 6)).block, (a1.add ((a0).toNat * 6)).off + 4, none⟩ = some (.slice a7 ((rd_T102 l0 a0).f1.f3).length a8) ∧ w'.cell? ⟨(a1.add ((a0).toNat * 6)).block, (a1.add ((a0).toNat * 6)).off + 5, none⟩ = some (.slice b3 ((rd_T102 l0 a0).f2).length b4) ∧ w'.cell? (a1.add ((a0).toNat * 6)) = some (.string ((rd_T102 l0 a0).f0)) ∧ w'.cell? ⟨(a1.add ((a0).toNat * 6)).block, (a1.add ((a0).toNat * 6)).off + 1, none⟩ = some (.int .i64 ((rd_T102 l0 a0).f1.f0)) ∧ w'.cell? ⟨(a1.add ((a0).toNat * 6)).block, (a1.add ((a0).toNat * 6)).off + 2, none⟩ = some (.int .i64 ((rd_T102 l0 a0).f1.f1)) ∧ w'.cell? ⟨(a1.add ((a0).toNat * 6)).block, (a1.add ((a0).toNat * 6)).off + 3, none⟩ = some (.int .i64 ((rd_T102 l0 a0).f1.f2)) ∧ w'.cell? ⟨(a1.add ((a0).toNat * 6)).block, (a1.add ((a0).toNat * 6)).off + 4, none⟩ = some (.slice a7 ((rd_T102 l0 a0).f1.f3).length a8) ∧ w'.cell? ⟨(a1.add ((a0).toNat * 6)).block, (a1.add ((a0).toNat * 6)).off + 5, none⟩ = some (.slice b3 ((rd_T102 l0 a0).f2).length b4) ∧ w'.cell? (a1.add ((a0).toNat * 6)) = some (.string ((rd_T102 l0 a0).f0)) ∧ w'.cell? ⟨(a1.add ((a0).toNat * 6)).block, (a1.add ((a0).toNat * 6)).off + 1, none⟩ = some (.int .i64 ((rd_T102 l0 a0).f1.f0)) ∧ w'.cell? ⟨(a1.add ((a0).toNat * 6)).block, (a1.add ((a0).toNat * 6)).off + 2, none⟩ = some (.int .i64 ((rd_T102 l0 a0).f1.f1)) ∧ w'.cell? ⟨(a1.add ((a0).toNat * 6)).block, (a1.add ((a0).toNat * 6)).off + 3, none⟩ = some (.int .i64 ((rd_T102 l0 a0).f1.f2)) ∧ w'.cell? ⟨(a1.add ((a0).toNat * 6)).block, (a1.add ((a0).toNat * 6)).off + 4, none⟩ = some (.slice a7 ((rd_T102 l0 a0).f1.f3).length a8) ∧ w'.cell? ⟨(a1.add ((a0).toNat * 6)).block, (a1.add ((a0).toNat * 6)).off + 5, none⟩ = some (.slice b3 ((rd_T102 l0 a0).f2).length b4) ∧ w'.cell? (a1.add (((a2)).toNat * 6)) = some (.string ((rd_T102 l0 (a2)).f0)) ∧ w'.cell? ⟨(a1.add (((a2)).toNat * 6)).block, (a1.add (((a2)).toNat * 6)).off + 1, none⟩ = some (.int .i64 ((rd_T102 l0 (a2)).f1.f0)) ∧ w'.cell? ⟨(a1.add (((a2)).toNat * 6)).block, (a1.add (((a2)).toNat * 6)).off + 2, none⟩ = some (.int .i64 ((rd_T102 l0 (a2)).f1.f1)) ∧ w'.cell? ⟨(a1.add (((a2)).toNat * 6)).block, (a1.add (((a2)).toNat * 6)).off + 3, none⟩ = some (.int .i64 ((rd_T102 l0 (a2)).f1.f2)) ∧ w'.cell? ⟨(a1.add (((a2)).toNat * 6)).block, (a1.add (((a2)).toNat * 6)).off + 4, none⟩ = some (.slice j5 ((rd_T102 l0 (a2)).f1.f3).length j6) ∧ w'.cell? ⟨(a1.add (((a2)).toNat * 6)).block, (a1.add (((a2)).toNat * 6)).off + 5, none⟩ = some (.slice j7 ((rd_T102 l0 (a2)).f2).length j8) ∧ w'.cell? (a1.add ((a0).toNat * 6)) = some (.string ((rd_T102 l0 a0).f0)) ∧ w'.cell? ⟨(a1.add ((a0).toNat * 6)).block, (a1.add ((a0).toNat * 6)).off + 1, none⟩ = some (.int .i64 ((rd_T102 l0 a0).f1.f0)) ∧ w'.cell? ⟨(a1.add ((a0).toNat * 6)).block, (a1.add ((a0).toNat * 6)).off + 2, none⟩ = some (.int .i64 ((rd_T102 l0 a0).f1.f1)) ∧ w'.cell? ⟨(a1.add ((a0).toNat * 6)).block, (a1.add ((a0).toNat * 6)).off + 3, none⟩ = some (.int .i64 ((rd_T102 l0 a0).f1.f2)) ∧ w'.cell? ⟨(a1.add ((a0).toNat * 6)).block, (a1.add ((a0).toNat * 6)).off + 4, none⟩ = some (.slice a7 ((rd_T102 l0 a0).f1.f3).length a8) ∧ w'.cell? ⟨(a1.add ((a0).toNat * 6)).block, (a1.add ((a0).toNat * 6)).off + 5, none⟩ = some (.slice b3 ((rd_T102 l0 a0).f2).length b4)) (ds := []) (Array.replicate 42 false) (by kernel_rfl) rfl rfl zO fun hHeld => ?_; refine with_tabW spec_RegOk.tab4 spec_RegOk.bits4 (fun HT_ HW_ => ?_)
          generalize wc.drew = t1 at HB e6 e7 e4 g3 h6 f6 k4 k5 l1 l2 a9 b0 b1 b2 a3 a4 b5 b6 b7 b8 a5 a6 d0 d1 d2 d3 c4 c5 g4 g5 g6 g7 g8 g9 h0 h1 h2 h3 f7 f8 hHeld ⊢
          refine zp 0 10 ?_
          refine zp 1 11 ?_
          refine zp 2 12 ?_
          refine zp 3 13 ?_
          refine zt 4 14 ?_
          refine zo 5 (some 15) fun K hK => ?_
          refine goes_ Tryz.func53 (by kernel_rfl) rfl #[.string ((rd_T102 l0 a0).f0)] (by rfl) rfl rfl zM ?_
          with_reducible refine (spec_NameOk.calls c6 ((rd_T102 l0 a0).f0) true _ A6.out).mono ?_
          rintro e w' ⟨rfl, ⟨nd, rfl⟩⟩
          refine ⟨_, rfl, ?_⟩
          refine hK.out _ _ zO fun hHeld => ?_
          clear hK K
          refine zn ?_
          refine zp 6 16 ?_
          refine zp 7 17 ?_
          refine zp 8 18 ?_
          refine zp 9 19 ?_
          refine zp 10 20 ?_
          refine zp 11 21 ?_
          refine zt 12 22 ?_
          refine zo 13 (some 23) fun K hK => ?_
          refine goes_ Tryz.func68 (by kernel_rfl) rfl #[.agg #[.int .i64 ((rd_T102 l0 a0).f1.f0), .int .i64 ((rd_T102 l0 a0).f1.f1), .int .i64 ((rd_T102 l0 a0).f1.f2), .slice a7 ((rd_T102 l0 a0).f1.f3).length a8]] (by rfl) rfl rfl zM ?_
          with_reducible refine (spec_VerOk.calls c6 ((rd_T102 l0 a0).f1.f0) ((rd_T102 l0 a0).f1.f1) ((rd_T102 l0 a0).f1.f2) _ _ ((rd_T102 l0 a0).f1.f3) true _ ?s1 ?s2 A8.out).mono ?_
          (case s1 => repeat (first | exact (Kd.C_below e4.out (zB)) | (with_reducible refine Kd.C_alloc ?_ _) | (with_reducible refine Kd.C_drewN ?_ _) | (with_reducible refine Kd.C_drew ?_)))
          (case s2 => exact g2.out)
          rintro e t2 ⟨rfl, hb⟩
          refine ⟨_, rfl, ?_⟩
          replace HB := zA (below_step (zB) hb)
          (try clear hb)
          refine hK.out _ _ zO fun hHeld => ?_
          clear hK K
          refine zn ?_
          refine zp 14 24 ?_
          refine zp 15 25 ?_
          refine zp 16 26 ?_
          refine zp 17 27 ?_
          refine zp 18 28 ?_
          refine zp 19 29 ?_
          refine zp 20 30 ?_
          refine zt 21 31 ?_
          refine zo 22 (some 32) fun K hK => ?_
          refine goes_ Tryz.func56 (by kernel_rfl) rfl #[.slice b3 ((rd_T102 l0 a0).f2).length b4] (by rfl) rfl rfl zM ?_
          with_reducible refine (spec_l7Needs.calls c6 _ _ ((rd_T102 l0 a0).f2) true _ ?s1 ?s2 i4.out).mono ?_
          (case s1 => exact zC (Kd.C_below f6.out HB.out))
          (case s2 => exact h7.out)
          rintro e t3 ⟨rfl, hb⟩
          refine ⟨_, rfl, ?_⟩
          replace HB := zA (below_step (zB) hb)
          (try clear hb)
          refine hK.out _ _ zO fun hHeld => ?_
          clear hK K
          refine zn ?_
          refine zp 23 33 ?_
          refine zp 24 34 ?_
          refine zp 25 35 ?_
          refine zp 26 36 ?_
          refine zp 27 37 ?_
          refine zp 28 38 ?_
          refine zp 29 39 ?_
          refine zp 30 40 ?_
          refine zp 31 41 ?_
          refine zp 32 42 ?_
          refine zp 34 44 ?_
          refine zp 35 45 ?_
          refine zp 36 46 ?_
          refine zt 33 43 ?_
          refine zt 37 47 ?_
          refine zo 38 (some 48) fun K hK => ?_
          refine goes_ Tryz.func69 (by kernel_rfl) rfl #[.agg #[.string ((rd_T102 l0 (a2)).f0), .int .i64 ((rd_T102 l0 (a2)).f1.f0), .int .i64 ((rd_T102 l0 (a2)).f1.f1), .int .i64 ((rd_T102 l0 (a2)).f1.f2), .slice j5 ((rd_T102 l0 (a2)).f1.f3).length j6, .slice j7 ((rd_T102 l0 (a2)).f2).length j8], .agg #[.string ((rd_T102 l0 a0).f0), .int .i64 ((rd_T102 l0 a0).f1.f0), .int .i64 ((rd_T102 l0 a0).f1.f1), .int .i64 ((rd_T102 l0 a0).f1.f2), .slice a7 ((rd_T102 l0 a0).f1.f3).length a8, .slice b3 ((rd_T102 l0 a0).f2).length b4]] (by rfl) rfl rfl (by (try simp only [List.map_toArray, List.map_cons, List.map_nil]); first | done | (simp only [f9]; rfl) | rfl | (simp only [List.length_drop, List.length_take]; rfl)) ?_
          with_reducible refine (spec_l8Less.calls c6 ((rd_T102 l0 (a2)).f0) ((rd_T102 l0 (a2)).f1.f0) ((rd_T102 l0 (a2)).f1.f1) ((rd_T102 l0 (a2)).f1.f2) _ _ ((rd_T102 l0 (a2)).f1.f3) _ _ ((rd_T102 l0 (a2)).f2) ((rd_T102 l0 a0).f0) ((rd_T102 l0 a0).f1.f0) ((rd_T102 l0 a0).f1.f1) ((rd_T102 l0 a0).f1.f2) _ _ ((rd_T102 l0 a0).f1.f3) _ _ ((rd_T102 l0 a0).f2) true _ ?s1 ?s2 ?s3 ?s4 ?s5 ?s6 ?s7 ?s8 p3.out).mono ?_
          (case s1 => exact zC (Kd.C_below k4.out HB.out))
          (case s2 => exact n9.out)
          (case s3 => exact zC (Kd.C_below k5.out HB.out))
          (case s4 => exact o0.out)
          (case s5 => exact zC (Kd.C_below l1.out HB.out))
          (case s6 => exact o3.out)
          (case s7 => exact zC (Kd.C_below l2.out HB.out))
          (case s8 => exact o4.out)
          rintro e t4 ⟨rfl, hb⟩
          refine ⟨_, rfl, ?_⟩
          replace HB := zA (below_step (zB) hb)
          (try clear hb)
          refine hK.out _ _ zO fun hHeld => ?_
          clear hK K
          refine zn ?_
          refine zp 39 49 ?_
          refine zp 40 50 ?_
          refine zp 41 51 ?_
          refine done_ (done_of HT_.out (by kernel_rfl)) ?_
          try go_wp2
          go_roundg c6
          case measure => have := i3.out; have := l3.out; omega
          case rel => exact ⟨(wrap64 (a0 + 1)), zS, H', ⟨by have := i3.out; have := l3.out; omega⟩, ⟨zB⟩⟩
         ·obtain rfl := zm H
          try go_wp2
          replace HB := zA (below_drew1 HB.out)
          have b9 : 0 ≤ (a0 : Int) := zD
          have c1 : a0 < (l0.length : Int) := zD
          obtain ⟨a1, a7, a8, b3, b4, e5, a9, b0, b1, b2, a3, a4, d4, d5, d6, d7⟩ := at_T102 c7.out a0 b9 c1
          have i6 := a4
          have i7 := a3
          have i8 := b2
          have i9 := b1
          have j0 := b0
          have j2 := a9
          cases e5
          replace a9 := zx HB a9
          replace b0 := zx HB b0
          replace b1 := zx HB b1
          replace b2 := zx HB b2
          replace a3 := zx HB a3
          replace a4 := zx HB a4
          have e6 := zA d5
          have j3 := zA d4
          clear d5 d4
          have e7 := zA d7
          have j4 := zA d6
          clear d7 d6
          replace b9 := eq_true b9
          replace c1 := eq_true c1
          have c8 : 0 ≤ (a0 : Int) := zD
          have c9 : a0 < (l0.length : Int) := zD
          obtain ⟨g0, l4, l5, l6, l7, g1, b5, b6, b7, b8, a5, a6, e0, e1, e2, e3⟩ := at_T102 c7.out a0 c8 c9
          have l8 := a6
          have l9 := a5
          have m0 := b8
          have m1 := b7
          have m2 := b6
          have m3 := b5
          obtain rfl : a1 = g0 := (by injection g1)
          replace b5 := zx HB b5
          replace b6 := zx HB b6
          replace b7 := zx HB b7
          replace b8 := zx HB b8
          replace a5 := zx HB a5
          replace a6 := zx HB a6
          have e4 := zA e1
          have g2 := zA e0
          clear e1 e0
          have ea_ := Option.some.inj (a3.symm.trans a5)
          injection ea_ with ea_ en_ ec_
          subst ea_
          subst ec_
          clear en_
          have ea_ := Option.some.inj (a4.symm.trans a6)
          injection ea_ with ea_ en_ ec_
          subst ea_
          subst ec_
          clear en_
          have g3 := zA e3
          have m4 := zA e2
          clear e3 e2
          replace c8 := eq_true c8
          replace c9 := eq_true c9
          have ea_ := Option.some.inj (a3.symm.trans a5)
          injection ea_ with ea_ en_ ec_
          (first | subst ea_ | clear ea_)
          (first | subst ec_ | clear ec_)
          clear en_
          have ea_ := Option.some.inj (a4.symm.trans a6)
          injection ea_ with ea_ en_ ec_
          (first | subst ea_ | clear ea_)
          (first | subst ec_ | clear ec_)
          clear en_
          have d8 : 0 ≤ (a0 : Int) := zD
          have d9 : a0 < (l0.length : Int) := zD
          obtain ⟨h4, m6, m7, m8, m9, h5, d0, d1, d2, d3, c4, c5, e8, e9, f4, f5⟩ := at_T102 c7.out a0 d8 d9
          have n0 := c5
          have n1 := c4
          have n2 := d3
          have n3 := d2
          have n4 := d1
          have n5 := d0
          obtain rfl : a1 = h4 := (by injection h5)
          replace d0 := zx HB d0
          replace d1 := zx HB d1
          replace d2 := zx HB d2
          replace d3 := zx HB d3
          replace c4 := zx HB c4
          replace c5 := zx HB c5
          have h6 := zA e9
          have n6 := zA e8
          clear e9 e8
          have ea_ := Option.some.inj (a3.symm.trans c4)
          injection ea_ with ea_ en_ ec_
          subst ea_
          subst ec_
          clear en_
          have ea_ := Option.some.inj (a4.symm.trans c5)
          injection ea_ with ea_ en_ ec_
          subst ea_
          subst ec_
          clear en_
          have f6 := zA f5
          have h7 := zA f4
          clear f5 f4
          replace d8 := eq_true d8
          replace d9 := eq_true d9
          have h8 : 0 ≤ ((a2) : Int) := zD
          have h9 : (a2) < (l0.length : Int) := zD
          obtain ⟨n7, j5, j6, j7, j8, n8, g4, g5, g6, g7, g8, g9, j9, k0, k2, k3⟩ := at_T102 c7.out (a2) h8 h9
          have p5 := g9
          have p6 := g8
          have p7 := g7
          have p8 := g6
          have p9 := g5
          have q0 := g4
          obtain rfl : a1 = n7 := (by injection n8)
          replace g4 := zx HB g4
          replace g5 := zx HB g5
          replace g6 := zx HB g6
          replace g7 := zx HB g7
          replace g8 := zx HB g8
          replace g9 := zx HB g9
          have k4 := zA k0
          have n9 := zA j9
          clear k0 j9
          have k5 := zA k3
          have o0 := zA k2
          clear k3 k2
          replace h8 := eq_true h8
          replace h9 := eq_true h9
          have i0 : 0 ≤ (a0 : Int) := zD
          have i1 : a0 < (l0.length : Int) := zD
          obtain ⟨o1, q1, q2, q3, q4, o2, h0, h1, h2, h3, f7, f8, k6, k7, k8, k9⟩ := at_T102 c7.out a0 i0 i1
          have q5 := f8
          have q6 := f7
          have q7 := h3
          have q8 := h2
          have q9 := h1
          have r0 := h0
          obtain rfl : a1 = o1 := (by injection o2)
          replace h0 := zx HB h0
          replace h1 := zx HB h1
          replace h2 := zx HB h2
          replace h3 := zx HB h3
          replace f7 := zx HB f7
          replace f8 := zx HB f8
          have l1 := zA k7
          have o3 := zA k6
          clear k7 k6
          have ea_ := Option.some.inj (a3.symm.trans f7)
          injection ea_ with ea_ en_ ec_
          subst ea_
          subst ec_
          clear en_
          have ea_ := Option.some.inj (a4.symm.trans f8)
          injection ea_ with ea_ en_ ec_
          subst ea_
          subst ec_
          clear en_
          have l2 := zA k9
          have o4 := zA k8
          clear k9 k8
          replace i0 := eq_true i0
          replace i1 := eq_true i1
          refine start_ (n := 42) (S := fun w' => w'.cell? (a1.add ((a0).toNat * 6)) = some (.string ((rd_T102 l0 a0).f0)) ∧ w'.cell? ⟨(a1.add ((a0).toNat * 6)).block, (a1.add ((a0).toNat * 6)).off + 1, none⟩ = some (.int .i64 ((rd_T102 l0 a0).f1.f0)) ∧ w'.cell? ⟨(a1.add ((a0).toNat * 6)).block, (a1.add ((a0).toNat * 6)).off + 2, none⟩ = some (.int .i64 ((rd_T102 l0 a0).f1.f1)) ∧ w'.cell? ⟨(a1.add ((a0).toNat * 6)).block, (a1.add ((a0).toNat * 6)).off + 3, none⟩ = some (.int .i64 ((rd_T102 l0 a0).f1.f2)) ∧ w'.cell? ⟨(a1.add ((a0).toNat * 6)).block, (a1.add ((a0).toNat * 6)).off + 4, none⟩ = some (.slice a7 ((rd_T102 l0 a0).f1.f3).length a8) ∧ w'.cell? ⟨(a1.add ((a0).toNat * 6)).block, (a1.add ((a0).toNat * 6)).off + 5, none⟩ = some (.slice b3 ((rd_T102 l0 a0).f2).length b4) ∧ w'.cell? (a1.add ((a0).toNat * 6)) = some (.string ((rd_T102 l0 a0).f0)) ∧ w'.cell? ⟨(a1.add ((a0).toNat * 6)).block, (a1.add ((a0).toNat * 6)).off + 1, none⟩ = some (.int .i64 ((rd_T102 l0 a0).f1.f0)) ∧ w'.cell? ⟨(a1.add ((a0).toNat * 6)).block, (a1.add ((a0).toNat * 6)).off + 2, none⟩ = some (.int .i64 ((rd_T102 l0 a0).f1.f1)) ∧ w'.cell? ⟨(a1.add ((a0).toNat * 6)).block, (a1.add ((a0).toNat * 6)).off + 3, none⟩ = some (.int .i64 ((rd_T102 l0 a0).f1.f2)) ∧ w'.cell? ⟨(a1.add ((a0).toNat * 6)).block, (a1.add ((a0).toNat * 6)).off + 4, none⟩ = some (.slice a7 ((rd_T102 l0 a0).f1.f3).length a8) ∧ w'.cell? ⟨(a1.add ((a0).toNat * 6)).block, (a1.add ((a0).toNat * 6)).off + 5, none⟩ = some (.slice b3 ((rd_T102 l0 a0).f2).length b4) ∧ w'.cell? (a1.add ((a0).toNat * 6)) = some (.string ((rd_T102 l0 a0).f0)) ∧ w'.cell? ⟨(a1.add ((a0).toNat * 6)).block, (a1.add ((a0).toNat * 6)).off + 1, none⟩ = some (.int .i64 ((rd_T102 l0 a0).f1.f0)) ∧ w'.cell? ⟨(a1.add ((a0).toNat * 6)).block, (a1.add ((a0).toNat * 6)).off + 2, none⟩ = some (.int .i64 ((rd_T102 l0 a0).f1.f1)) ∧ w'.cell? ⟨(a1.add ((a0).toNat * 6)).block, (a1.add ((a0).toNat * 6)).off + 3, none⟩ = some (.int .i64 ((rd_T102 l0 a0).f1.f2)) ∧ w'.cell? ⟨(a1.add ((a0).toNat * 6)).block, (a1.add ((a0).toNat * 6)).off + 4, none⟩ = some (.slice a7 ((rd_T102 l0 a0).f1.f3).length a8) ∧ w'.cell? ⟨(a1.add ((a0).toNat * 6)).block, (a1.add ((a0).toNat * 6)).off + 5, none⟩ = some (.slice b3 ((rd_T102 l0 a0).f2).length b4) ∧ w'.cell? (a1.add (((a2)).toNat * 6)) = some (.string ((rd_T102 l0 (a2)).f0)) ∧ w'.cell? ⟨(a1.add (((a2)).toNat * 6)).block, (a1.add (((a2)).toNat * 6)).off + 1, none⟩ = some (.int .i64 ((rd_T102 l0 (a2)).f1.f0)) ∧ w'.cell? ⟨(a1.add (((a2)).toNat * 6)).block, (a1.add (((a2)).toNat * 6)).off + 2, none⟩ = some (.int .i64 ((rd_T102 l0 (a2)).f1.f1)) ∧ w'.cell? ⟨(a1.add (((a2)).toNat * 6)).block, (a1.add (((a2)).toNat * 6)).off + 3, none⟩ = some (.int .i64 ((rd_T102 l0 (a2)).f1.f2)) ∧ w'.cell? ⟨(a1.add (((a2)).toNat * 6)).block, (a1.add (((a2)).toNat * 6)).off + 4, none⟩ = some (.slice j5 ((rd_T102 l0 (a2)).f1.f3).length j6) ∧ w'.cell? ⟨(a1.add (((a2)).toNat * 6)).block, (a1.add (((a2)).toNat * 6)).off + 5, none⟩ = some (.slice j7 ((rd_T102 l0 (a2)).f2).length j8) ∧ w'.cell? (a1.add ((a0).toNat * 6)) = some (.string ((rd_T102 l0 a0).f0)) ∧ w'.cell? ⟨(a1.add ((a0).toNat * 6)).block, (a1.add ((a0).toNat * 6)).off + 1, none⟩ = some (.int .i64 ((rd_T102 l0 a0).f1.f0)) ∧ w'.cell? ⟨(a1.add ((a0).toNat * 6)).block, (a1.add ((a0).toNat * 6)).off + 2, none⟩ = some (.int .i64 ((rd_T102 l0 a0).f1.f1)) ∧ w'.cell? ⟨(a1.add ((a0).toNat * 6)).block, (a1.add ((a0).toNat * 6)).off + 3, none⟩ = some (.int .i64 ((rd_T102 l0 a0).f1.f2)) ∧ w'.cell? ⟨(a1.add ((a0).toNat * 6)).block, (a1.add ((a0).toNat * 6)).off + 4, none⟩ = some (.slice a7 ((rd_T102 l0 a0).f1.f3).length a8) ∧ w'.cell? ⟨(a1.add ((a0).toNat * 6)).block, (a1.add ((a0).toNat * 6)).off + 5, none⟩ = some (.slice b3 ((rd_T102 l0 a0).f2).length b4)) (ds := []) (Array.replicate 42 false) (by kernel_rfl) rfl rfl zO fun hHeld => ?_; refine with_tabW spec_RegOk.tab4 spec_RegOk.bits4 (fun HT_ HW_ => ?_)
          generalize wc.drew = t5 at HB e6 e7 e4 g3 h6 f6 k4 k5 l1 l2 a9 b0 b1 b2 a3 a4 b5 b6 b7 b8 a5 a6 d0 d1 d2 d3 c4 c5 g4 g5 g6 g7 g8 g9 h0 h1 h2 h3 f7 f8 hHeld ⊢
          refine zp 0 10 ?_
          refine zp 1 11 ?_
          refine zp 2 12 ?_
          refine zp 3 13 ?_
          refine zt 4 14 ?_
          refine zo 5 (some 15) fun K hK => ?_
          refine goes_ Tryz.func53 (by kernel_rfl) rfl #[.string ((rd_T102 l0 a0).f0)] (by rfl) rfl rfl zM ?_
          with_reducible refine (spec_NameOk.calls c6 ((rd_T102 l0 a0).f0) true _ A6.out).mono ?_
          rintro e w' ⟨rfl, ⟨nd, rfl⟩⟩
          refine ⟨_, rfl, ?_⟩
          refine hK.out _ _ zO fun hHeld => ?_
          clear hK K
          refine zn ?_
          refine zp 6 16 ?_
          refine zp 7 17 ?_
          refine zp 8 18 ?_
          refine zp 9 19 ?_
          refine zp 10 20 ?_
          refine zp 11 21 ?_
          refine zt 12 22 ?_
          refine zo 13 (some 23) fun K hK => ?_
          refine goes_ Tryz.func68 (by kernel_rfl) rfl #[.agg #[.int .i64 ((rd_T102 l0 a0).f1.f0), .int .i64 ((rd_T102 l0 a0).f1.f1), .int .i64 ((rd_T102 l0 a0).f1.f2), .slice a7 ((rd_T102 l0 a0).f1.f3).length a8]] (by rfl) rfl rfl zM ?_
          with_reducible refine (spec_VerOk.calls c6 ((rd_T102 l0 a0).f1.f0) ((rd_T102 l0 a0).f1.f1) ((rd_T102 l0 a0).f1.f2) _ _ ((rd_T102 l0 a0).f1.f3) true _ ?s1 ?s2 A8.out).mono ?_
          (case s1 => repeat (first | exact (Kd.C_below e4.out (zB)) | (with_reducible refine Kd.C_alloc ?_ _) | (with_reducible refine Kd.C_drewN ?_ _) | (with_reducible refine Kd.C_drew ?_)))
          (case s2 => exact g2.out)
          rintro e t6 ⟨rfl, hb⟩
          refine ⟨_, rfl, ?_⟩
          replace HB := zA (below_step (zB) hb)
          (try clear hb)
          refine hK.out _ _ zO fun hHeld => ?_
          clear hK K
          refine zn ?_
          refine zp 14 24 ?_
          refine zp 15 25 ?_
          refine zp 16 26 ?_
          refine zp 17 27 ?_
          refine zp 18 28 ?_
          refine zp 19 29 ?_
          refine zp 20 30 ?_
          refine zt 21 31 ?_
          refine zo 22 (some 32) fun K hK => ?_
          refine goes_ Tryz.func56 (by kernel_rfl) rfl #[.slice b3 ((rd_T102 l0 a0).f2).length b4] (by rfl) rfl rfl zM ?_
          with_reducible refine (spec_l7Needs.calls c6 _ _ ((rd_T102 l0 a0).f2) true _ ?s1 ?s2 i4.out).mono ?_
          (case s1 => exact zC (Kd.C_below f6.out HB.out))
          (case s2 => exact h7.out)
          rintro e t7 ⟨rfl, hb⟩
          refine ⟨_, rfl, ?_⟩
          replace HB := zA (below_step (zB) hb)
          (try clear hb)
          refine hK.out _ _ zO fun hHeld => ?_
          clear hK K
          refine zn ?_
          refine zp 23 33 ?_
          refine zp 24 34 ?_
          refine zp 25 35 ?_
          refine zp 26 36 ?_
          refine zp 27 37 ?_
          refine zp 28 38 ?_
          refine zp 29 39 ?_
          refine zp 30 40 ?_
          refine zp 31 41 ?_
          refine zp 32 42 ?_
          refine zp 34 44 ?_
          refine zp 35 45 ?_
          refine zp 36 46 ?_
          refine zt 33 43 ?_
          refine zt 37 47 ?_
          refine zo 38 (some 48) fun K hK => ?_
          refine goes_ Tryz.func69 (by kernel_rfl) rfl #[.agg #[.string ((rd_T102 l0 (a2)).f0), .int .i64 ((rd_T102 l0 (a2)).f1.f0), .int .i64 ((rd_T102 l0 (a2)).f1.f1), .int .i64 ((rd_T102 l0 (a2)).f1.f2), .slice j5 ((rd_T102 l0 (a2)).f1.f3).length j6, .slice j7 ((rd_T102 l0 (a2)).f2).length j8], .agg #[.string ((rd_T102 l0 a0).f0), .int .i64 ((rd_T102 l0 a0).f1.f0), .int .i64 ((rd_T102 l0 a0).f1.f1), .int .i64 ((rd_T102 l0 a0).f1.f2), .slice a7 ((rd_T102 l0 a0).f1.f3).length a8, .slice b3 ((rd_T102 l0 a0).f2).length b4]] (by rfl) rfl rfl (by (try simp only [List.map_toArray, List.map_cons, List.map_nil]); first | done | (simp only [f9]; rfl) | rfl | (simp only [List.length_drop, List.length_take]; rfl)) ?_
          with_reducible refine (spec_l8Less.calls c6 ((rd_T102 l0 (a2)).f0) ((rd_T102 l0 (a2)).f1.f0) ((rd_T102 l0 (a2)).f1.f1) ((rd_T102 l0 (a2)).f1.f2) _ _ ((rd_T102 l0 (a2)).f1.f3) _ _ ((rd_T102 l0 (a2)).f2) ((rd_T102 l0 a0).f0) ((rd_T102 l0 a0).f1.f0) ((rd_T102 l0 a0).f1.f1) ((rd_T102 l0 a0).f1.f2) _ _ ((rd_T102 l0 a0).f1.f3) _ _ ((rd_T102 l0 a0).f2) false _ ?s1 ?s2 ?s3 ?s4 ?s5 ?s6 ?s7 ?s8 p3.out).mono ?_
          (case s1 => exact zC (Kd.C_below k4.out HB.out))
          (case s2 => exact n9.out)
          (case s3 => exact zC (Kd.C_below k5.out HB.out))
          (case s4 => exact o0.out)
          (case s5 => exact zC (Kd.C_below l1.out HB.out))
          (case s6 => exact o3.out)
          (case s7 => exact zC (Kd.C_below l2.out HB.out))
          (case s8 => exact o4.out)
          rintro e t8 ⟨rfl, hb⟩
          refine ⟨_, rfl, ?_⟩
          replace HB := zA (below_step (zB) hb)
          (try clear hb)
          refine hK.out _ _ zO fun hHeld => ?_
          clear hK K
          refine zn ?_
          refine zp 39 49 ?_
          refine zp 40 50 ?_
          refine zp 41 51 ?_
          refine done_ (done_of HT_.out (by kernel_rfl)) ?_
          try go_wp2
          go_ret
          exact ⟨by first | rfl | (simp [errW_none, errW_some] <;> rfl) | (simp only [← f9]; first | rfl | (simp [errW_none, errW_some] <;> rfl)) | (simp [*, errW_none, errW_some] <;> rfl), zB⟩
        ·have p4 : decide (0 < a0) = false := decide_eq_false i5
         clear i5
         have H' := zA H
         clear H
         try go_wp2
         replace HB := zA (below_drew1 HB.out)
         have b9 : 0 ≤ (a0 : Int) := zD
         have c1 : a0 < (l0.length : Int) := zD
         obtain ⟨a1, a7, a8, b3, b4, e5, a9, b0, b1, b2, a3, a4, d4, d5, d6, d7⟩ := at_T102 c7.out a0 b9 c1
         have i6 := a4
         have i7 := a3
         have i8 := b2
         have i9 := b1
         have j0 := b0
         have j2 := a9
         cases e5
         replace a9 := zx HB a9
         replace b0 := zx HB b0
         replace b1 := zx HB b1
         replace b2 := zx HB b2
         replace a3 := zx HB a3
         replace a4 := zx HB a4
         have e6 := zA d5
         have j3 := zA d4
         clear d5 d4
         have e7 := zA d7
         have j4 := zA d6
         clear d7 d6
         replace b9 := eq_true b9
         replace c1 := eq_true c1
         have c8 : 0 ≤ (a0 : Int) := zD
         have c9 : a0 < (l0.length : Int) := zD
         obtain ⟨g0, l4, l5, l6, l7, g1, b5, b6, b7, b8, a5, a6, e0, e1, e2, e3⟩ := at_T102 c7.out a0 c8 c9
         have l8 := a6
         have l9 := a5
         have m0 := b8
         have m1 := b7
         have m2 := b6
         have m3 := b5
         obtain rfl : a1 = g0 := (by injection g1)
         replace b5 := zx HB b5
         replace b6 := zx HB b6
         replace b7 := zx HB b7
         replace b8 := zx HB b8
         replace a5 := zx HB a5
         replace a6 := zx HB a6
         have e4 := zA e1
         have g2 := zA e0
         clear e1 e0
         have ea_ := Option.some.inj (a3.symm.trans a5)
         injection ea_ with ea_ en_ ec_
         subst ea_
         subst ec_
         clear en_
         have ea_ := Option.some.inj (a4.symm.trans a6)
         injection ea_ with ea_ en_ ec_
         subst ea_
         subst ec_
         clear en_
         have g3 := zA e3
         have m4 := zA e2
         clear e3 e2
         replace c8 := eq_true c8
         replace c9 := eq_true c9
         have ea_ := Option.some.inj (a3.symm.trans a5)
         injection ea_ with ea_ en_ ec_
         (first | subst ea_ | clear ea_)
         (first | subst ec_ | clear ec_)
         clear en_
         have ea_ := Option.some.inj (a4.symm.trans a6)
         injection ea_ with ea_ en_ ec_
         (first | subst ea_ | clear ea_)
         (first | subst ec_ | clear ec_)
         clear en_
         have d8 : 0 ≤ (a0 : Int) := zD
         have d9 : a0 < (l0.length : Int) := zD
         obtain ⟨h4, m6, m7, m8, m9, h5, d0, d1, d2, d3, c4, c5, e8, e9, f4, f5⟩ := at_T102 c7.out a0 d8 d9
         have n0 := c5
         have n1 := c4
         have n2 := d3
         have n3 := d2
         have n4 := d1
         have n5 := d0
         obtain rfl : a1 = h4 := (by injection h5)
         replace d0 := zx HB d0
         replace d1 := zx HB d1
         replace d2 := zx HB d2
         replace d3 := zx HB d3
         replace c4 := zx HB c4
         replace c5 := zx HB c5
         have h6 := zA e9
         have n6 := zA e8
         clear e9 e8
         have ea_ := Option.some.inj (a3.symm.trans c4)
         injection ea_ with ea_ en_ ec_
         subst ea_
         subst ec_
         clear en_
         have ea_ := Option.some.inj (a4.symm.trans c5)
         injection ea_ with ea_ en_ ec_
         subst ea_
         subst ec_
         clear en_
         have f6 := zA f5
         have h7 := zA f4
         clear f5 f4
         replace d8 := eq_true d8
         replace d9 := eq_true d9
         refine start_ (n := 42) (S := fun w' => w'.cell? (a1.add ((a0).toNat * 6)) = some (.string ((rd_T102 l0 a0).f0)) ∧ w'.cell? ⟨(a1.add ((a0).toNat * 6)).block, (a1.add ((a0).toNat * 6)).off + 1, none⟩ = some (.int .i64 ((rd_T102 l0 a0).f1.f0)) ∧ w'.cell? ⟨(a1.add ((a0).toNat * 6)).block, (a1.add ((a0).toNat * 6)).off + 2, none⟩ = some (.int .i64 ((rd_T102 l0 a0).f1.f1)) ∧ w'.cell? ⟨(a1.add ((a0).toNat * 6)).block, (a1.add ((a0).toNat * 6)).off + 3, none⟩ = some (.int .i64 ((rd_T102 l0 a0).f1.f2)) ∧ w'.cell? ⟨(a1.add ((a0).toNat * 6)).block, (a1.add ((a0).toNat * 6)).off + 4, none⟩ = some (.slice a7 ((rd_T102 l0 a0).f1.f3).length a8) ∧ w'.cell? ⟨(a1.add ((a0).toNat * 6)).block, (a1.add ((a0).toNat * 6)).off + 5, none⟩ = some (.slice b3 ((rd_T102 l0 a0).f2).length b4) ∧ w'.cell? (a1.add ((a0).toNat * 6)) = some (.string ((rd_T102 l0 a0).f0)) ∧ w'.cell? ⟨(a1.add ((a0).toNat * 6)).block, (a1.add ((a0).toNat * 6)).off + 1, none⟩ = some (.int .i64 ((rd_T102 l0 a0).f1.f0)) ∧ w'.cell? ⟨(a1.add ((a0).toNat * 6)).block, (a1.add ((a0).toNat * 6)).off + 2, none⟩ = some (.int .i64 ((rd_T102 l0 a0).f1.f1)) ∧ w'.cell? ⟨(a1.add ((a0).toNat * 6)).block, (a1.add ((a0).toNat * 6)).off + 3, none⟩ = some (.int .i64 ((rd_T102 l0 a0).f1.f2)) ∧ w'.cell? ⟨(a1.add ((a0).toNat * 6)).block, (a1.add ((a0).toNat * 6)).off + 4, none⟩ = some (.slice a7 ((rd_T102 l0 a0).f1.f3).length a8) ∧ w'.cell? ⟨(a1.add ((a0).toNat * 6)).block, (a1.add ((a0).toNat * 6)).off + 5, none⟩ = some (.slice b3 ((rd_T102 l0 a0).f2).length b4) ∧ w'.cell? (a1.add ((a0).toNat * 6)) = some (.string ((rd_T102 l0 a0).f0)) ∧ w'.cell? ⟨(a1.add ((a0).toNat * 6)).block, (a1.add ((a0).toNat * 6)).off + 1, none⟩ = some (.int .i64 ((rd_T102 l0 a0).f1.f0)) ∧ w'.cell? ⟨(a1.add ((a0).toNat * 6)).block, (a1.add ((a0).toNat * 6)).off + 2, none⟩ = some (.int .i64 ((rd_T102 l0 a0).f1.f1)) ∧ w'.cell? ⟨(a1.add ((a0).toNat * 6)).block, (a1.add ((a0).toNat * 6)).off + 3, none⟩ = some (.int .i64 ((rd_T102 l0 a0).f1.f2)) ∧ w'.cell? ⟨(a1.add ((a0).toNat * 6)).block, (a1.add ((a0).toNat * 6)).off + 4, none⟩ = some (.slice a7 ((rd_T102 l0 a0).f1.f3).length a8) ∧ w'.cell? ⟨(a1.add ((a0).toNat * 6)).block, (a1.add ((a0).toNat * 6)).off + 5, none⟩ = some (.slice b3 ((rd_T102 l0 a0).f2).length b4)) (ds := []) (Array.replicate 42 false) (by kernel_rfl) rfl rfl zO fun hHeld => ?_; refine with_tabW spec_RegOk.tab4 spec_RegOk.bits4 (fun HT_ HW_ => ?_)
         generalize wc.drew = t9 at HB e6 e7 e4 g3 h6 f6 a9 b0 b1 b2 a3 a4 b5 b6 b7 b8 a5 a6 d0 d1 d2 d3 c4 c5 hHeld ⊢
         refine zp 0 10 ?_
         refine zp 1 11 ?_
         refine zp 2 12 ?_
         refine zp 3 13 ?_
         refine zt 4 14 ?_
         refine zo 5 (some 15) fun K hK => ?_
         refine goes_ Tryz.func53 (by kernel_rfl) rfl #[.string ((rd_T102 l0 a0).f0)] (by rfl) rfl rfl zM ?_
         with_reducible refine (spec_NameOk.calls c6 ((rd_T102 l0 a0).f0) true _ A6.out).mono ?_
         rintro e w' ⟨rfl, ⟨nd, rfl⟩⟩
         refine ⟨_, rfl, ?_⟩
         refine hK.out _ _ zO fun hHeld => ?_
         clear hK K
         refine zn ?_
         refine zp 6 16 ?_
         refine zp 7 17 ?_
         refine zp 8 18 ?_
         refine zp 9 19 ?_
         refine zp 10 20 ?_
         refine zp 11 21 ?_
         refine zt 12 22 ?_
         refine zo 13 (some 23) fun K hK => ?_
         refine goes_ Tryz.func68 (by kernel_rfl) rfl #[.agg #[.int .i64 ((rd_T102 l0 a0).f1.f0), .int .i64 ((rd_T102 l0 a0).f1.f1), .int .i64 ((rd_T102 l0 a0).f1.f2), .slice a7 ((rd_T102 l0 a0).f1.f3).length a8]] (by rfl) rfl rfl zM ?_
         with_reducible refine (spec_VerOk.calls c6 ((rd_T102 l0 a0).f1.f0) ((rd_T102 l0 a0).f1.f1) ((rd_T102 l0 a0).f1.f2) _ _ ((rd_T102 l0 a0).f1.f3) true _ ?s1 ?s2 A8.out).mono ?_
         (case s1 => repeat (first | exact (Kd.C_below e4.out (zB)) | (with_reducible refine Kd.C_alloc ?_ _) | (with_reducible refine Kd.C_drewN ?_ _) | (with_reducible refine Kd.C_drew ?_)))
         (case s2 => exact g2.out)
         rintro e v0 ⟨rfl, hb⟩
         refine ⟨_, rfl, ?_⟩
         replace HB := zA (below_step (zB) hb)
         (try clear hb)
         refine hK.out _ _ zO fun hHeld => ?_
         clear hK K
         refine zn ?_
         refine zp 14 24 ?_
         refine zp 15 25 ?_
         refine zp 16 26 ?_
         refine zp 17 27 ?_
         refine zp 18 28 ?_
         refine zp 19 29 ?_
         refine zp 20 30 ?_
         refine zt 21 31 ?_
         refine zo 22 (some 32) fun K hK => ?_
         refine goes_ Tryz.func56 (by kernel_rfl) rfl #[.slice b3 ((rd_T102 l0 a0).f2).length b4] (by rfl) rfl rfl zM ?_
         with_reducible refine (spec_l7Needs.calls c6 _ _ ((rd_T102 l0 a0).f2) true _ ?s1 ?s2 i4.out).mono ?_
         (case s1 => exact zC (Kd.C_below f6.out HB.out))
         (case s2 => exact h7.out)
         rintro e v1 ⟨rfl, hb⟩
         refine ⟨_, rfl, ?_⟩
         replace HB := zA (below_step (zB) hb)
         (try clear hb)
         refine hK.out _ _ zO fun hHeld => ?_
         clear hK K
         refine zn ?_
         refine zp 23 33 ?_
         refine zp 24 34 ?_
         refine zp 25 35 ?_
         refine zp 26 36 ?_
         refine zp 27 37 ?_
         refine zp 28 38 ?_
         refine zu 29 39 ?_
         refine zu 30 40 ?_
         refine zu 31 41 ?_
         refine zu 32 42 ?_
         refine zu 33 43 ?_
         refine zu 34 44 ?_
         refine zu 35 45 ?_
         refine zu 36 46 ?_
         refine zu 37 47 ?_
         refine zu 38 48 ?_
         refine zu 39 49 ?_
         refine zp 40 50 ?_
         refine zp 41 51 ?_
         refine done_ (done_of HT_.out (by kernel_rfl)) ?_
         try go_wp2
         go_roundg c6
         case measure => have := i3.out; have := l3.out; omega
         case rel => exact ⟨(wrap64 (a0 + 1)), zS, H', ⟨by have := i3.out; have := l3.out; omega⟩, ⟨zB⟩⟩
       ·obtain rfl := zm H
        try go_wp2
        replace HB := zA (below_drew1 HB.out)
        have b9 : 0 ≤ (a0 : Int) := zD
        have c1 : a0 < (l0.length : Int) := zD
        obtain ⟨a1, a7, a8, b3, b4, e5, a9, b0, b1, b2, a3, a4, d4, d5, d6, d7⟩ := at_T102 c7.out a0 b9 c1
        have i6 := a4
        have i7 := a3
        have i8 := b2
        have i9 := b1
        have j0 := b0
        have j2 := a9
        cases e5
        replace a9 := zx HB a9
        replace b0 := zx HB b0
        replace b1 := zx HB b1
        replace b2 := zx HB b2
        replace a3 := zx HB a3
        replace a4 := zx HB a4
        have e6 := zA d5
        have j3 := zA d4
        clear d5 d4
        have e7 := zA d7
        have j4 := zA d6
        clear d7 d6
        replace b9 := eq_true b9
        replace c1 := eq_true c1
        have c8 : 0 ≤ (a0 : Int) := zD
        have c9 : a0 < (l0.length : Int) := zD
        obtain ⟨g0, l4, l5, l6, l7, g1, b5, b6, b7, b8, a5, a6, e0, e1, e2, e3⟩ := at_T102 c7.out a0 c8 c9
        have l8 := a6
        have l9 := a5
        have m0 := b8
        have m1 := b7
        have m2 := b6
        have m3 := b5
        obtain rfl : a1 = g0 := (by injection g1)
        replace b5 := zx HB b5
        replace b6 := zx HB b6
        replace b7 := zx HB b7
        replace b8 := zx HB b8
        replace a5 := zx HB a5
        replace a6 := zx HB a6
        have e4 := zA e1
        have g2 := zA e0
        clear e1 e0
        have ea_ := Option.some.inj (a3.symm.trans a5)
        injection ea_ with ea_ en_ ec_
        subst ea_
        subst ec_
        clear en_
        have ea_ := Option.some.inj (a4.symm.trans a6)
        injection ea_ with ea_ en_ ec_
        subst ea_
        subst ec_
        clear en_
        have g3 := zA e3
        have m4 := zA e2
        clear e3 e2
        replace c8 := eq_true c8
        replace c9 := eq_true c9
        have ea_ := Option.some.inj (a3.symm.trans a5)
        injection ea_ with ea_ en_ ec_
        (first | subst ea_ | clear ea_)
        (first | subst ec_ | clear ec_)
        clear en_
        have ea_ := Option.some.inj (a4.symm.trans a6)
        injection ea_ with ea_ en_ ec_
        (first | subst ea_ | clear ea_)
        (first | subst ec_ | clear ec_)
        clear en_
        have d8 : 0 ≤ (a0 : Int) := zD
        have d9 : a0 < (l0.length : Int) := zD
        obtain ⟨h4, m6, m7, m8, m9, h5, d0, d1, d2, d3, c4, c5, e8, e9, f4, f5⟩ := at_T102 c7.out a0 d8 d9
        have n0 := c5
        have n1 := c4
        have n2 := d3
        have n3 := d2
        have n4 := d1
        have n5 := d0
        obtain rfl : a1 = h4 := (by injection h5)
        replace d0 := zx HB d0
        replace d1 := zx HB d1
        replace d2 := zx HB d2
        replace d3 := zx HB d3
        replace c4 := zx HB c4
        replace c5 := zx HB c5
        have h6 := zA e9
        have n6 := zA e8
        clear e9 e8
        have ea_ := Option.some.inj (a3.symm.trans c4)
        injection ea_ with ea_ en_ ec_
        subst ea_
        subst ec_
        clear en_
        have ea_ := Option.some.inj (a4.symm.trans c5)
        injection ea_ with ea_ en_ ec_
        subst ea_
        subst ec_
        clear en_
        have f6 := zA f5
        have h7 := zA f4
        clear f5 f4
        replace d8 := eq_true d8
        replace d9 := eq_true d9
        refine start_ (n := 42) (S := fun w' => w'.cell? (a1.add ((a0).toNat * 6)) = some (.string ((rd_T102 l0 a0).f0)) ∧ w'.cell? ⟨(a1.add ((a0).toNat * 6)).block, (a1.add ((a0).toNat * 6)).off + 1, none⟩ = some (.int .i64 ((rd_T102 l0 a0).f1.f0)) ∧ w'.cell? ⟨(a1.add ((a0).toNat * 6)).block, (a1.add ((a0).toNat * 6)).off + 2, none⟩ = some (.int .i64 ((rd_T102 l0 a0).f1.f1)) ∧ w'.cell? ⟨(a1.add ((a0).toNat * 6)).block, (a1.add ((a0).toNat * 6)).off + 3, none⟩ = some (.int .i64 ((rd_T102 l0 a0).f1.f2)) ∧ w'.cell? ⟨(a1.add ((a0).toNat * 6)).block, (a1.add ((a0).toNat * 6)).off + 4, none⟩ = some (.slice a7 ((rd_T102 l0 a0).f1.f3).length a8) ∧ w'.cell? ⟨(a1.add ((a0).toNat * 6)).block, (a1.add ((a0).toNat * 6)).off + 5, none⟩ = some (.slice b3 ((rd_T102 l0 a0).f2).length b4) ∧ w'.cell? (a1.add ((a0).toNat * 6)) = some (.string ((rd_T102 l0 a0).f0)) ∧ w'.cell? ⟨(a1.add ((a0).toNat * 6)).block, (a1.add ((a0).toNat * 6)).off + 1, none⟩ = some (.int .i64 ((rd_T102 l0 a0).f1.f0)) ∧ w'.cell? ⟨(a1.add ((a0).toNat * 6)).block, (a1.add ((a0).toNat * 6)).off + 2, none⟩ = some (.int .i64 ((rd_T102 l0 a0).f1.f1)) ∧ w'.cell? ⟨(a1.add ((a0).toNat * 6)).block, (a1.add ((a0).toNat * 6)).off + 3, none⟩ = some (.int .i64 ((rd_T102 l0 a0).f1.f2)) ∧ w'.cell? ⟨(a1.add ((a0).toNat * 6)).block, (a1.add ((a0).toNat * 6)).off + 4, none⟩ = some (.slice a7 ((rd_T102 l0 a0).f1.f3).length a8) ∧ w'.cell? ⟨(a1.add ((a0).toNat * 6)).block, (a1.add ((a0).toNat * 6)).off + 5, none⟩ = some (.slice b3 ((rd_T102 l0 a0).f2).length b4) ∧ w'.cell? (a1.add ((a0).toNat * 6)) = some (.string ((rd_T102 l0 a0).f0)) ∧ w'.cell? ⟨(a1.add ((a0).toNat * 6)).block, (a1.add ((a0).toNat * 6)).off + 1, none⟩ = some (.int .i64 ((rd_T102 l0 a0).f1.f0)) ∧ w'.cell? ⟨(a1.add ((a0).toNat * 6)).block, (a1.add ((a0).toNat * 6)).off + 2, none⟩ = some (.int .i64 ((rd_T102 l0 a0).f1.f1)) ∧ w'.cell? ⟨(a1.add ((a0).toNat * 6)).block, (a1.add ((a0).toNat * 6)).off + 3, none⟩ = some (.int .i64 ((rd_T102 l0 a0).f1.f2)) ∧ w'.cell? ⟨(a1.add ((a0).toNat * 6)).block, (a1.add ((a0).toNat * 6)).off + 4, none⟩ = some (.slice a7 ((rd_T102 l0 a0).f1.f3).length a8) ∧ w'.cell? ⟨(a1.add ((a0).toNat * 6)).block, (a1.add ((a0).toNat * 6)).off + 5, none⟩ = some (.slice b3 ((rd_T102 l0 a0).f2).length b4)) (ds := []) (Array.replicate 42 false) (by kernel_rfl) rfl rfl zO fun hHeld => ?_; refine with_tabW spec_RegOk.tab4 spec_RegOk.bits4 (fun HT_ HW_ => ?_)
        generalize wc.drew = v2 at HB e6 e7 e4 g3 h6 f6 a9 b0 b1 b2 a3 a4 b5 b6 b7 b8 a5 a6 d0 d1 d2 d3 c4 c5 hHeld ⊢
        refine zp 0 10 ?_
        refine zp 1 11 ?_
        refine zp 2 12 ?_
        refine zp 3 13 ?_
        refine zt 4 14 ?_
        refine zo 5 (some 15) fun K hK => ?_
        refine goes_ Tryz.func53 (by kernel_rfl) rfl #[.string ((rd_T102 l0 a0).f0)] (by rfl) rfl rfl zM ?_
        with_reducible refine (spec_NameOk.calls c6 ((rd_T102 l0 a0).f0) true _ A6.out).mono ?_
        rintro e w' ⟨rfl, ⟨nd, rfl⟩⟩
        refine ⟨_, rfl, ?_⟩
        refine hK.out _ _ zO fun hHeld => ?_
        clear hK K
        refine zn ?_
        refine zp 6 16 ?_
        refine zp 7 17 ?_
        refine zp 8 18 ?_
        refine zp 9 19 ?_
        refine zp 10 20 ?_
        refine zp 11 21 ?_
        refine zt 12 22 ?_
        refine zo 13 (some 23) fun K hK => ?_
        refine goes_ Tryz.func68 (by kernel_rfl) rfl #[.agg #[.int .i64 ((rd_T102 l0 a0).f1.f0), .int .i64 ((rd_T102 l0 a0).f1.f1), .int .i64 ((rd_T102 l0 a0).f1.f2), .slice a7 ((rd_T102 l0 a0).f1.f3).length a8]] (by rfl) rfl rfl zM ?_
        with_reducible refine (spec_VerOk.calls c6 ((rd_T102 l0 a0).f1.f0) ((rd_T102 l0 a0).f1.f1) ((rd_T102 l0 a0).f1.f2) _ _ ((rd_T102 l0 a0).f1.f3) true _ ?s1 ?s2 A8.out).mono ?_
        (case s1 => repeat (first | exact (Kd.C_below e4.out (zB)) | (with_reducible refine Kd.C_alloc ?_ _) | (with_reducible refine Kd.C_drewN ?_ _) | (with_reducible refine Kd.C_drew ?_)))
        (case s2 => exact g2.out)
        rintro e v4 ⟨rfl, hb⟩
        refine ⟨_, rfl, ?_⟩
        replace HB := zA (below_step (zB) hb)
        (try clear hb)
        refine hK.out _ _ zO fun hHeld => ?_
        clear hK K
        refine zn ?_
        refine zp 14 24 ?_
        refine zp 15 25 ?_
        refine zp 16 26 ?_
        refine zp 17 27 ?_
        refine zp 18 28 ?_
        refine zp 19 29 ?_
        refine zp 20 30 ?_
        refine zt 21 31 ?_
        refine zo 22 (some 32) fun K hK => ?_
        refine goes_ Tryz.func56 (by kernel_rfl) rfl #[.slice b3 ((rd_T102 l0 a0).f2).length b4] (by rfl) rfl rfl zM ?_
        with_reducible refine (spec_l7Needs.calls c6 _ _ ((rd_T102 l0 a0).f2) false _ ?s1 ?s2 i4.out).mono ?_
        (case s1 => exact zC (Kd.C_below f6.out HB.out))
        (case s2 => exact h7.out)
        rintro e v5 ⟨rfl, hb⟩
        refine ⟨_, rfl, ?_⟩
        replace HB := zA (below_step (zB) hb)
        (try clear hb)
        refine hK.out _ _ zO fun hHeld => ?_
        clear hK K
        refine zn ?_
        refine zp 23 33 ?_
        refine zp 24 34 ?_
        refine zp 25 35 ?_
        refine zu 26 36 ?_
        refine zu 27 37 ?_
        refine zu 28 38 ?_
        refine zu 29 39 ?_
        refine zu 30 40 ?_
        refine zu 31 41 ?_
        refine zu 32 42 ?_
        refine zu 33 43 ?_
        refine zu 34 44 ?_
        refine zu 35 45 ?_
        refine zu 36 46 ?_
        refine zu 37 47 ?_
        refine zu 38 48 ?_
        refine zu 39 49 ?_
        refine zu 40 50 ?_
        refine zp 41 51 ?_
        refine done_ (done_of HT_.out (by kernel_rfl)) ?_
        try go_wp2
        go_ret
        exact ⟨zE, zB⟩
      ·obtain rfl := zm H
       try go_wp2
       replace HB := zA (below_drew1 HB.out)
       have b9 : 0 ≤ (a0 : Int) := zD
       have c1 : a0 < (l0.length : Int) := zD
       obtain ⟨a1, a7, a8, b3, b4, e5, a9, b0, b1, b2, a3, a4, d4, d5, d6, d7⟩ := at_T102 c7.out a0 b9 c1
       have i6 := a4
       have i7 := a3
       have i8 := b2
       have i9 := b1
       have j0 := b0
       have j2 := a9
       cases e5
       replace a9 := zx HB a9
       replace b0 := zx HB b0
       replace b1 := zx HB b1
       replace b2 := zx HB b2
       replace a3 := zx HB a3
       replace a4 := zx HB a4
       have e6 := zA d5
       have j3 := zA d4
       clear d5 d4
       have e7 := zA d7
       have j4 := zA d6
       clear d7 d6
       replace b9 := eq_true b9
       replace c1 := eq_true c1
       have c8 : 0 ≤ (a0 : Int) := zD
       have c9 : a0 < (l0.length : Int) := zD
       obtain ⟨g0, l4, l5, l6, l7, g1, b5, b6, b7, b8, a5, a6, e0, e1, e2, e3⟩ := at_T102 c7.out a0 c8 c9
       have l8 := a6
       have l9 := a5
       have m0 := b8
       have m1 := b7
       have m2 := b6
       have m3 := b5
       obtain rfl : a1 = g0 := (by injection g1)
       replace b5 := zx HB b5
       replace b6 := zx HB b6
       replace b7 := zx HB b7
       replace b8 := zx HB b8
       replace a5 := zx HB a5
       replace a6 := zx HB a6
       have e4 := zA e1
       have g2 := zA e0
       clear e1 e0
       have ea_ := Option.some.inj (a3.symm.trans a5)
       injection ea_ with ea_ en_ ec_
       subst ea_
       subst ec_
       clear en_
       have ea_ := Option.some.inj (a4.symm.trans a6)
       injection ea_ with ea_ en_ ec_
       subst ea_
       subst ec_
       clear en_
       have g3 := zA e3
       have m4 := zA e2
       clear e3 e2
       replace c8 := eq_true c8
       replace c9 := eq_true c9
       have ea_ := Option.some.inj (a3.symm.trans a5)
       injection ea_ with ea_ en_ ec_
       (first | subst ea_ | clear ea_)
       (first | subst ec_ | clear ec_)
       clear en_
       have ea_ := Option.some.inj (a4.symm.trans a6)
       injection ea_ with ea_ en_ ec_
       (first | subst ea_ | clear ea_)
       (first | subst ec_ | clear ec_)
       clear en_
       refine start_ (n := 42) (S := fun w' => w'.cell? (a1.add ((a0).toNat * 6)) = some (.string ((rd_T102 l0 a0).f0)) ∧ w'.cell? ⟨(a1.add ((a0).toNat * 6)).block, (a1.add ((a0).toNat * 6)).off + 1, none⟩ = some (.int .i64 ((rd_T102 l0 a0).f1.f0)) ∧ w'.cell? ⟨(a1.add ((a0).toNat * 6)).block, (a1.add ((a0).toNat * 6)).off + 2, none⟩ = some (.int .i64 ((rd_T102 l0 a0).f1.f1)) ∧ w'.cell? ⟨(a1.add ((a0).toNat * 6)).block, (a1.add ((a0).toNat * 6)).off + 3, none⟩ = some (.int .i64 ((rd_T102 l0 a0).f1.f2)) ∧ w'.cell? ⟨(a1.add ((a0).toNat * 6)).block, (a1.add ((a0).toNat * 6)).off + 4, none⟩ = some (.slice a7 ((rd_T102 l0 a0).f1.f3).length a8) ∧ w'.cell? ⟨(a1.add ((a0).toNat * 6)).block, (a1.add ((a0).toNat * 6)).off + 5, none⟩ = some (.slice b3 ((rd_T102 l0 a0).f2).length b4) ∧ w'.cell? (a1.add ((a0).toNat * 6)) = some (.string ((rd_T102 l0 a0).f0)) ∧ w'.cell? ⟨(a1.add ((a0).toNat * 6)).block, (a1.add ((a0).toNat * 6)).off + 1, none⟩ = some (.int .i64 ((rd_T102 l0 a0).f1.f0)) ∧ w'.cell? ⟨(a1.add ((a0).toNat * 6)).block, (a1.add ((a0).toNat * 6)).off + 2, none⟩ = some (.int .i64 ((rd_T102 l0 a0).f1.f1)) ∧ w'.cell? ⟨(a1.add ((a0).toNat * 6)).block, (a1.add ((a0).toNat * 6)).off + 3, none⟩ = some (.int .i64 ((rd_T102 l0 a0).f1.f2)) ∧ w'.cell? ⟨(a1.add ((a0).toNat * 6)).block, (a1.add ((a0).toNat * 6)).off + 4, none⟩ = some (.slice a7 ((rd_T102 l0 a0).f1.f3).length a8) ∧ w'.cell? ⟨(a1.add ((a0).toNat * 6)).block, (a1.add ((a0).toNat * 6)).off + 5, none⟩ = some (.slice b3 ((rd_T102 l0 a0).f2).length b4)) (ds := []) (Array.replicate 42 false) (by kernel_rfl) rfl rfl zO fun hHeld => ?_; refine with_tabW spec_RegOk.tab4 spec_RegOk.bits4 (fun HT_ HW_ => ?_)
       generalize wc.drew = v6 at HB e6 e7 e4 g3 a9 b0 b1 b2 a3 a4 b5 b6 b7 b8 a5 a6 hHeld ⊢
       refine zp 0 10 ?_
       refine zp 1 11 ?_
       refine zp 2 12 ?_
       refine zp 3 13 ?_
       refine zt 4 14 ?_
       refine zo 5 (some 15) fun K hK => ?_
       refine goes_ Tryz.func53 (by kernel_rfl) rfl #[.string ((rd_T102 l0 a0).f0)] (by rfl) rfl rfl zM ?_
       with_reducible refine (spec_NameOk.calls c6 ((rd_T102 l0 a0).f0) true _ A6.out).mono ?_
       rintro e w' ⟨rfl, ⟨nd, rfl⟩⟩
       refine ⟨_, rfl, ?_⟩
       refine hK.out _ _ zO fun hHeld => ?_
       clear hK K
       refine zn ?_
       refine zp 6 16 ?_
       refine zp 7 17 ?_
       refine zp 8 18 ?_
       refine zp 9 19 ?_
       refine zp 10 20 ?_
       refine zp 11 21 ?_
       refine zt 12 22 ?_
       refine zo 13 (some 23) fun K hK => ?_
       refine goes_ Tryz.func68 (by kernel_rfl) rfl #[.agg #[.int .i64 ((rd_T102 l0 a0).f1.f0), .int .i64 ((rd_T102 l0 a0).f1.f1), .int .i64 ((rd_T102 l0 a0).f1.f2), .slice a7 ((rd_T102 l0 a0).f1.f3).length a8]] (by rfl) rfl rfl zM ?_
       with_reducible refine (spec_VerOk.calls c6 ((rd_T102 l0 a0).f1.f0) ((rd_T102 l0 a0).f1.f1) ((rd_T102 l0 a0).f1.f2) _ _ ((rd_T102 l0 a0).f1.f3) false _ ?s1 ?s2 A8.out).mono ?_
       (case s1 => repeat (first | exact (Kd.C_below e4.out (zB)) | (with_reducible refine Kd.C_alloc ?_ _) | (with_reducible refine Kd.C_drewN ?_ _) | (with_reducible refine Kd.C_drew ?_)))
       (case s2 => exact g2.out)
       rintro e v7 ⟨rfl, hb⟩
       refine ⟨_, rfl, ?_⟩
       replace HB := zA (below_step (zB) hb)
       (try clear hb)
       refine hK.out _ _ zO fun hHeld => ?_
       clear hK K
       refine zn ?_
       refine zp 14 24 ?_
       refine zp 15 25 ?_
       refine zp 16 26 ?_
       refine zu 17 27 ?_
       refine zu 18 28 ?_
       refine zu 19 29 ?_
       refine zu 20 30 ?_
       refine zu 21 31 ?_
       refine zu 22 32 ?_
       refine zu 23 33 ?_
       refine zp 24 34 ?_
       refine zp 25 35 ?_
       refine zu 26 36 ?_
       refine zu 27 37 ?_
       refine zu 28 38 ?_
       refine zu 29 39 ?_
       refine zu 30 40 ?_
       refine zu 31 41 ?_
       refine zu 32 42 ?_
       refine zu 33 43 ?_
       refine zu 34 44 ?_
       refine zu 35 45 ?_
       refine zu 36 46 ?_
       refine zu 37 47 ?_
       refine zu 38 48 ?_
       refine zu 39 49 ?_
       refine zu 40 50 ?_
       refine zp 41 51 ?_
       refine done_ (done_of HT_.out (by kernel_rfl)) ?_
       try go_wp2
       go_ret
       exact ⟨zE, zB⟩
     ·obtain rfl := zm H
      try go_wp2
      replace HB := zA (below_drew1 HB.out)
      have b9 : 0 ≤ (a0 : Int) := zD
      have c1 : a0 < (l0.length : Int) := zD
      obtain ⟨a1, a7, a8, b3, b4, e5, a9, b0, b1, b2, a3, a4, d4, d5, d6, d7⟩ := at_T102 c7.out a0 b9 c1
      have i6 := a4
      have i7 := a3
      have i8 := b2
      have i9 := b1
      have j0 := b0
      have j2 := a9
      cases e5
      replace a9 := zx HB a9
      replace b0 := zx HB b0
      replace b1 := zx HB b1
      replace b2 := zx HB b2
      replace a3 := zx HB a3
      replace a4 := zx HB a4
      have e6 := zA d5
      have j3 := zA d4
      clear d5 d4
      have e7 := zA d7
      have j4 := zA d6
      clear d7 d6
      replace b9 := eq_true b9
      replace c1 := eq_true c1
      refine start_ (n := 42) (S := fun w' => w'.cell? (a1.add ((a0).toNat * 6)) = some (.string ((rd_T102 l0 a0).f0)) ∧ w'.cell? ⟨(a1.add ((a0).toNat * 6)).block, (a1.add ((a0).toNat * 6)).off + 1, none⟩ = some (.int .i64 ((rd_T102 l0 a0).f1.f0)) ∧ w'.cell? ⟨(a1.add ((a0).toNat * 6)).block, (a1.add ((a0).toNat * 6)).off + 2, none⟩ = some (.int .i64 ((rd_T102 l0 a0).f1.f1)) ∧ w'.cell? ⟨(a1.add ((a0).toNat * 6)).block, (a1.add ((a0).toNat * 6)).off + 3, none⟩ = some (.int .i64 ((rd_T102 l0 a0).f1.f2)) ∧ w'.cell? ⟨(a1.add ((a0).toNat * 6)).block, (a1.add ((a0).toNat * 6)).off + 4, none⟩ = some (.slice a7 ((rd_T102 l0 a0).f1.f3).length a8) ∧ w'.cell? ⟨(a1.add ((a0).toNat * 6)).block, (a1.add ((a0).toNat * 6)).off + 5, none⟩ = some (.slice b3 ((rd_T102 l0 a0).f2).length b4)) (ds := []) (Array.replicate 42 false) (by kernel_rfl) rfl rfl zO fun hHeld => ?_; refine with_tabW spec_RegOk.tab4 spec_RegOk.bits4 (fun HT_ HW_ => ?_)
      generalize wc.drew = v8 at HB e6 e7 a9 b0 b1 b2 a3 a4 hHeld ⊢
      refine zp 0 10 ?_
      refine zp 1 11 ?_
      refine zp 2 12 ?_
      refine zp 3 13 ?_
      refine zt 4 14 ?_
      refine zo 5 (some 15) fun K hK => ?_
      refine goes_ Tryz.func53 (by kernel_rfl) rfl #[.string ((rd_T102 l0 a0).f0)] (by rfl) rfl rfl zM ?_
      with_reducible refine (spec_NameOk.calls c6 ((rd_T102 l0 a0).f0) false _ A6.out).mono ?_
      rintro e w' ⟨rfl, ⟨nd, rfl⟩⟩
      refine ⟨_, rfl, ?_⟩
      refine hK.out _ _ zO fun hHeld => ?_
      clear hK K
      refine zn ?_
      refine zp 6 16 ?_
      refine zp 7 17 ?_
      refine zu 8 18 ?_
      refine zu 9 19 ?_
      refine zu 10 20 ?_
      refine zu 11 21 ?_
      refine zu 12 22 ?_
      refine zu 13 23 ?_
      refine zu 14 24 ?_
      refine zp 15 25 ?_
      refine zp 16 26 ?_
      refine zu 17 27 ?_
      refine zu 18 28 ?_
      refine zu 19 29 ?_
      refine zu 20 30 ?_
      refine zu 21 31 ?_
      refine zu 22 32 ?_
      refine zu 23 33 ?_
      refine zp 24 34 ?_
      refine zp 25 35 ?_
      refine zu 26 36 ?_
      refine zu 27 37 ?_
      refine zu 28 38 ?_
      refine zu 29 39 ?_
      refine zu 30 40 ?_
      refine zu 31 41 ?_
      refine zu 32 42 ?_
      refine zu 33 43 ?_
      refine zu 34 44 ?_
      refine zu 35 45 ?_
      refine zu 36 46 ?_
      refine zu 37 47 ?_
      refine zu 38 48 ?_
      refine zu 39 49 ?_
      refine zu 40 50 ?_
      refine zp 41 51 ?_
      refine done_ (done_of HT_.out (by kernel_rfl)) ?_
      try go_wp2
      go_ret
      exact ⟨zE, zB⟩
/-! ### laws_toStringS: function 49 -/
def laws_toStringS.l0 : Nat → List ByteArray → List ByteArray → Int → Option (List ByteArray)
 | 0, _, _, _ => none
 | k + 1, x0, x3, x4 => if x4 < (x0.length : Int) then (if 0 ≤ x4 then (if x4 < (x3.length : Int) then (laws_toStringS.l0 k x0 (x3.set (x4 : Int).toNat (rdOf ByteArray.empty x0 x4)) (wrap64 (x4 + 1))) else (none)) else (none)) else (some x3)
def laws_toStringS.f (k : Nat) (l0 : List ByteArray) : Option (List ByteArray) := if 0 ≤ (l0.length : Int) then (if ((l0.length : Int) : Int).toNat ≤ 17592186044416 then (laws_toStringS.l0 k l0 (List.replicate ((l0.length : Int) : Int).toNat (⟨#[]⟩ : ByteArray)) 0) else (none)) else (none)
theorem laws_toStringS.calls (k : Nat) (A0 : Option Addr) (c0 : Nat) (l0 r : List ByteArray) (w : World) (b2 : Kd.C Kd.string w A0 l0.length l0) (b3 : l0.length ≤ c0) (h : laws_toStringS.f k l0 = some r) :
  Calls Tryz.prog 49 #[.slice A0 l0.length c0] w fun e w' => ∃ b4 : Value, e = .returned (b4) ∧ Kd.R Kd.string 9 w' w.heap.size (fun _ => True) b4 r ∧ Below w.heap.size w w' := by
 have c6 := zA b2
 have d9 := zA b3
 clear b2 b3
 have HB := zA (Below.refl w.heap.size w)
 unfold laws_toStringS.f at h
 have H := h
 clear h
 replace H := zC0 H
 obtain ⟨c2, H⟩ := H
 have c7 := eq_true c2
 have c8 := decide_eq_true c2
 clear c2
 replace H := zC0 H
 obtain ⟨c3, H⟩ := H
 have c9 := eq_true c3
 have d0 := decide_eq_true c3
 clear c3
 obtain ⟨b5, a4⟩ : ∃ y_ : List ByteArray, y_ = (List.replicate ((l0.length : Int) : Int).toNat (⟨#[]⟩ : ByteArray)) := ⟨_, rfl⟩
 replace H : (laws_toStringS.l0 k l0 b5 0) = some r := zY a4 H
 have b6 := zA a4
 clear a4
 have H' := zA H
 clear H
 go_enter Tryz.func49, Tryz.ntmps49
 go_wp2_with (first | ((with_reducible refine gate_dst (N := 7) rfl ?_); refine Kd.R_make Kd.string _ 9 rfl (N := 7) rfl 24 _ _ rfl (l0.length : Int) rfl rfl Tryz.underlying24 (.string ⟨#[]⟩) 16 info9 rfl (by decide) (by omega) (⟨#[]⟩ : ByteArray) (ok := fun _ => True) (okp := fun _ => True) rfl (fun _ hk => hk) trivial (zD) (Nat.le_trans (Nat.mul_le_mul_right _ (zD : (l0.length : Int).toNat ≤ 17592186044416)) (by omega)) (Below.refl _ _) (Nat.le_refl _) ?_; intro d1 w4 a3 hb hg_ hnew_; clear hg_ hnew_; (first | rw [← b6.out] at a3 | (simp only [Int.reduceToNat] at a3; rw [← b6.out] at a3)); have d2 := zA (Kd.R_lower a3 (below_size (zB))); replace HB := zA (below_step (zB) hb); clear hb a3))
 go_loopg [4] k (fun kq v4 w' => ∃ (a1 : List ByteArray) (a0 : Int), v4 = .int .i64 a0 ∧ Aside0 (laws_toStringS.l0 kq l0 a1 a0 = some r) ∧ Aside0 (kq ≤ k) ∧ Aside0 (Kd.R Kd.string 9 w' w.heap.size (fun _ => True) d1 a1) ∧ Aside0 (Below w.heap.size w w'))
 case atStart => exact ⟨(b5), (0), zS, H', ⟨Nat.le_refl _⟩, ⟨zR d2.out⟩, ⟨zB⟩⟩
 case round =>
  clear H'
  try clear c2
  try clear c7
  try clear c8
  try clear p2
  try clear c3
  try clear c9
  try clear d0
  try clear c4
  obtain ⟨a1, a0, rfl, HA, b7, a2, HB⟩ := hrel
  cases gk with
  | zero => exact absurd HA.out (by simp [laws_toStringS.l0])
  | succ k1 =>
   have H := HA.out
   clear HA
   simp only [laws_toStringS.l0] at H
   replace H := zI0 H
   rcases H with ⟨d3, H⟩ | ⟨d3, H⟩
   ·replace H := zD0 H
    obtain ⟨e0, H⟩ := H
    replace H := zD0 H
    obtain ⟨e1, H⟩ := H
    obtain ⟨a5, a6⟩ : ∃ y_ : List ByteArray, y_ = (a1.set (a0 : Int).toNat (rdOf ByteArray.empty l0 a0)) := ⟨_, rfl⟩
    replace H : (laws_toStringS.l0 k1 l0 a5 (wrap64 (a0 + 1))) = some r := zY a6 H
    have d4 := zA a6
    clear a6
    have H' := zA H
    clear H
    have a7 : 0 ≤ (a0 : Int) := zD
    have a8 : a0 < (l0.length : Int) := zD
    obtain ⟨e2, d5, b8⟩ := Kd.at_string c6.out a0 a7 a8
    cases d5
    replace b8 := zx HB b8
    replace a7 := eq_true a7
    replace a8 := eq_true a8
    have p9 : 0 ≤ (a0 : Int) := zD
    have q9 : (a0 : Int) < ((a1.length : Int) : Int) := zD
    obtain ⟨a9, d6, b9, c1, d7, e3, c5⟩ := Kd.R_form a2.out (by omega)
    (first | cases b9 | (injection b9 with ea_ en_ ec_; (first | subst ea_ | (injection ea_ with ea_; subst ea_)); subst ec_; clear en_))
    have d8 := zA c1
    have e4 := zA c5
    clear c1 d7 c5
    obtain ⟨e5, e6⟩ := Kd.R_celln (⟨#[]⟩ : ByteArray) a2.out (a0 : Int) p9 q9
    replace p9 := eq_true p9
    replace q9 := eq_true q9
    have b0 := Kd.R_putg a2.out (a0 : Int) (rdOf ByteArray.empty l0 a0)
    go_wp2_with (first | ((with_reducible refine gate_store (t := 9) (p := 20) rfl ?_); refine store_event (t := 9) (p := 20) (v := ?vo_w11) (w1 := (wr.setCell ⟨a9, (a0 : Int).toNat, none⟩ (.string (rdOf ByteArray.empty l0 a0)))) ?hg ?ho ?hn ?hr ?_; (case ho => rfl); (case hg => rfl); (case hn => rfl); (case hr => first | (go_simp; done) | (go_simp; rfl)); intro b1 hw; have hg : wr.grownBy b1 (some a9) := (by rw [hw]; exact b0.2); have hp_ : Kd.R Kd.string 9 b1 w.heap.size (fun _ => True) (.slice (some ⟨a9, 0, none⟩) a1.length d6) a5 := (by rw [hw, d4.out]; exact b0.1); clear b0; replace a2 := zA (hp_); replace HB := zA ((by rw [hw]; exact below_set (HB.out) d8.out : Below w.heap.size w b1)); clear hg hw hp_))
    go_roundg k1
    case measure => have := b7.out; omega
    case rel => exact ⟨(a5), (wrap64 (a0 + 1)), zS, H', ⟨by have := b7.out; omega⟩, ⟨zR a2.out⟩, ⟨zB⟩⟩
   ·obtain rfl := zm H
    go_wp2
    go_ret
    exact ⟨_, zE, zR a2.out, zB⟩
/-! ### laws_toVer: function 13 -/
def laws_toVer.f (k : Nat) (a0 a1 a2 : Int) (a3 : List ByteArray) : Option (Int × Int × Int × List ByteArray) := (laws_toStringS.f k a3).bind fun a4 => (some (a0, a1, a2, a4))
theorem laws_toVer.calls (k : Nat) (a2 a4 a5 : Int) (a8 : Option Addr) (a9 : Nat) (a3 : List ByteArray) (r1 r2 r3 : Int) (r4 : List ByteArray) (w : World) (b3 : Kd.C Kd.string w a8 a3.length a3) (b4 : a3.length ≤ a9) (h : laws_toVer.f k a2 a4 a5 a3 = some (r1, r2, r3, r4)) :
  Calls Tryz.prog 13 #[.agg #[.int .i64 a2, .int .i64 a4, .int .i64 a5, .slice a8 a3.length a9]] w fun e w' => ∃ b5 : Value, e = .returned (.agg #[.int .i64 r1, .int .i64 r2, .int .i64 r3, b5]) ∧ Kd.R Kd.string 9 w' w.heap.size (fun _ => True) b5 r4 ∧ Below w.heap.size w w' := by
 have c9 := Tryz.underlying26
 have d0 := Tryz.underlying32
 have c0 := zA b3
 have c1 := zA b4
 clear b3 b4
 have HB := zA (Below.refl w.heap.size w)
 unfold laws_toVer.f at h
 have H := h
 clear h
 replace H := Option.bind_eq_some_iff.mp H
 obtain ⟨b0, b6, H⟩ := H
 try dsimp only at H
 have A2 := zA b6
 clear b6
 simp only [zU] at H
 obtain ⟨rfl, rfl, rfl, rfl⟩ := H
 go_enter Tryz.func13, Tryz.ntmps13
 go_wp2_with (first | ((with_reducible refine zd 1 ?_); refine ze 1 26 #[.int .i64 a2, .int .i64 a4, .int .i64 a5, .slice a8 a3.length a9] ?_; intro d1 hg w3 hbox hb; have a0 := zA (hbox); have d2 := zi HB hg; have d3 := zi HB hg; replace HB := zA (below_step (zB) hb); clear hb hbox hg) | ((with_reducible refine zd 2 ?_); refine ze 2 32 #[.int .i64 0, .int .i64 0, .int .i64 0, .slice none 0 0] ?_; intro a6 hg w4 hbox hb; have a1 := zA (hbox); have d4 := zi HB hg; have d5 := zi HB hg; replace HB := zh HB hb; have c2 := zA (zL hg (zK a0.out)); have c3 := zA (zJ hg (zK a0.out)); replace a0 := zb a0 hb; clear hb hbox hg) | ((with_reducible refine zd 3 ?_); refine ze 3 32 #[.int .i64 0, .int .i64 0, .int .i64 0, .slice none 0 0] ?_; intro b7 hg w5 hbox hb; have a7 := zA (hbox); have d6 := zi HB hg; have d7 := zi HB hg; replace HB := zh HB hb; have c4 := zA (zL hg (zK a0.out)); have c5 := zA (zJ hg (zK a0.out)); replace a0 := zb a0 hb; have c6 := zA (zL hg (zK a1.out)); have c7 := zA (zJ hg (zK a1.out)); replace a1 := zb a1 hb; clear hb hbox hg; have d8 := c2.out; have d9 := c3.out; have e0 := c4.out; have e1 := c5.out; obtain ⟨e2, e3, e4, e5, e6, e7, e8, e9⟩ := ze4 a0.out; have f0 := c7.out; have f1 := c6.out; obtain ⟨f2, f3, f4, f5, f6, f7, f8, f9⟩ := ze4 a7.out) | ((with_reducible refine zq 49 ?_); refine zg (some 15) Tryz.func49 #[.slice a8 a3.length a9] ?_; (with_reducible refine (laws_toStringS.calls k _ _ a3 b0 _ ?s1 ?s2 A2.out).mono ?_); (case s1 => exact Kd.C_below c0.out (zW HB.out)); (case s2 => exact c1.out); rintro e g0 ⟨g1, rfl, b8, hb⟩; refine ⟨_, rfl, ?_⟩; have b9 := zA (Kd.R_lower b8 (below_size (zW HB.out))); replace a0 := zb a0 hb; replace a1 := zb a1 hb; replace a7 := zA (blk_below (g := b7) (o := .cells #[.int .i64 a2, .int .i64 a4, .int .i64 a5, .slice none 0 0] 32 (0, 0)) (by (with_reducible repeat (first | refine blk_drewN ?_ _ | refine blk_drew ?_ | refine blk_alloc ?_ _)); refine blk_put (cs := #[.int .i64 a2, .int .i64 a4, .int .i64 0, .slice none 0 0]) ?_ 2 _ rfl; (with_reducible repeat (first | refine blk_drewN ?_ _ | refine blk_drew ?_ | refine blk_alloc ?_ _)); refine blk_put (cs := #[.int .i64 a2, .int .i64 0, .int .i64 0, .slice none 0 0]) ?_ 1 _ rfl; (with_reducible repeat (first | refine blk_drewN ?_ _ | refine blk_drew ?_ | refine blk_alloc ?_ _)); refine blk_put (cs := #[.int .i64 0, .int .i64 0, .int .i64 0, .slice none 0 0]) ?_ 0 _ rfl; (with_reducible repeat (first | refine blk_drewN ?_ _ | refine blk_drew ?_ | refine blk_alloc ?_ _)); exact a7.out) hb); replace HB := zh HB hb; (try clear hb b8); obtain ⟨b1, b2, c8⟩ := Kd.R_slice b9.out; subst c8; obtain ⟨g2, g3, g4, g5, g6, g7, g8, g9⟩ := ze4 a7.out; obtain ⟨h0, h1, h2, h3, h4, h5, h6, h7⟩ := ze4 a1.out))
 refine bodyPost_ret (results_cell_row rfl _ _ a6 32 #[.int .i64 a2, .int .i64 a4, .int .i64 a5, .slice b1 b0.length b2] (0, 0) _ rfl (zk4 a1.out) Tryz.underlying32 rfl (by kernel_rfl)) rfl ?_
 exact ⟨_, zE, zR (Kd.R_mono (Kd.R_far (p := ⟨a6, 3, none⟩) (Kd.R_far (p := ⟨a6, 2, none⟩) (Kd.R_far (p := ⟨a6, 1, none⟩) (Kd.R_far (p := ⟨a6, 0, none⟩) (Kd.R_far (p := ⟨b7, 3, none⟩) (Kd.R_types (Kd.R_types b9.out a7.out (by decide)) a1.out (by decide)) (fun _ hk => hk.1.2) (.slice b1 b0.length b2)) (fun _ hk => hk.2) (.int .i64 a2)) (fun _ hk => hk.2) (.int .i64 a4)) (fun _ hk => hk.2) (.int .i64 a5)) (fun _ hk => hk.2) (.slice b1 b0.length b2)) (fun _ hk => trivial)), zW HB.out⟩
/-! ### laws_toNeed: function 12 -/
def laws_toNeed.f (a0 a1 : ByteArray) : Option (ByteArray × ByteArray) := some (a0, a1)
theorem laws_toNeed.calls (a2 a3 r1 r2 : ByteArray) (w : World) (h : laws_toNeed.f a2 a3 = some (r1, r2)) :
  Calls Tryz.prog 12 #[.agg #[.string a2, .string a3]] w fun e w' => e = .returned (.agg #[.string r1, .string r2]) ∧ Below w.heap.size w w' := by
 have b2 := Tryz.underlying23
 have b3 := Tryz.underlying30
 have HB := zA (Below.refl w.heap.size w)
 unfold laws_toNeed.f at h
 have H := h
 clear h
 simp only [zU] at H
 obtain ⟨rfl, rfl⟩ := H
 go_enter Tryz.func12, Tryz.ntmps12
 go_wp2_with (first | ((with_reducible refine zd 1 ?_); refine ze 1 23 #[.string a2, .string a3] ?_; intro b4 hg w2 hbox hb; have a0 := zA (hbox); have b5 := zi HB hg; have b6 := zi HB hg; replace HB := zA (below_step (zB) hb); clear hb hbox hg) | ((with_reducible refine zd 2 ?_); refine ze 2 30 #[.string (⟨#[]⟩ : ByteArray), .string (⟨#[]⟩ : ByteArray)] ?_; intro a5 hg w3 hbox hb; have a1 := zA (hbox); have b7 := zi HB hg; have b8 := zi HB hg; replace HB := zh HB hb; have a6 := zA (zL hg (zK a0.out)); have a7 := zA (zJ hg (zK a0.out)); replace a0 := zb a0 hb; clear hb hbox hg) | ((with_reducible refine zd 3 ?_); refine ze 3 30 #[.string (⟨#[]⟩ : ByteArray), .string (⟨#[]⟩ : ByteArray)] ?_; intro b9 hg w4 hbox hb; have a8 := zA (hbox); have c0 := zi HB hg; have c1 := zi HB hg; replace HB := zh HB hb; have a9 := zA (zL hg (zK a0.out)); have b0 := zA (zJ hg (zK a0.out)); replace a0 := zb a0 hb; have a4 := zA (zL hg (zK a1.out)); have b1 := zA (zJ hg (zK a1.out)); replace a1 := zb a1 hb; clear hb hbox hg; have c2 := a6.out; have c3 := a7.out; have c4 := a9.out; have c5 := b0.out; obtain ⟨c6, c7, c8, c9⟩ := ze2 a0.out; have d0 := b1.out; have d1 := a4.out; obtain ⟨d2, d3, d4, d5⟩ := ze2 a8.out; obtain ⟨d6, d7, d8, d9⟩ := ze2 a1.out))
 refine bodyPost_ret (results_cell_row rfl _ _ a5 30 #[.string a2, .string a3] (0, 0) _ rfl (by (with_reducible repeat (first | refine blk_drewN ?_ _ | refine blk_drew ?_ | refine blk_alloc ?_ _)); refine blk_put (cs := #[.string a2, .string (⟨#[]⟩ : ByteArray)]) ?_ 1 _ rfl; (with_reducible repeat (first | refine blk_drewN ?_ _ | refine blk_drew ?_ | refine blk_alloc ?_ _)); refine blk_put (cs := #[.string (⟨#[]⟩ : ByteArray), .string (⟨#[]⟩ : ByteArray)]) ?_ 0 _ rfl; (with_reducible repeat (first | refine blk_drewN ?_ _ | refine blk_drew ?_ | refine blk_alloc ?_ _)); refine blk_far ?_ a4.out _; (with_reducible repeat (first | refine blk_drewN ?_ _ | refine blk_drew ?_ | refine blk_alloc ?_ _)); refine blk_far ?_ a4.out _; (with_reducible repeat (first | refine blk_drewN ?_ _ | refine blk_drew ?_ | refine blk_alloc ?_ _)); exact a1.out) Tryz.underlying30 rfl (by kernel_rfl)) rfl ?_
 exact ⟨zE, zW HB.out⟩
/-! ### laws_toNeedS: function 58 -/
def laws_toNeedS.l0 : Nat → List (S23) → List (S30) → Int → Option ((List (S30)))
 | 0, _, _, _ => none
 | k + 1, x0, x3, x4 => if x4 < (x0.length : Int) then (if 0 ≤ x4 then ((laws_toNeed.f ((rd_T23 x0 x4).f0) ((rd_T23 x0 x4).f1)).bind fun a0 => (if x4 < (x3.length : Int) then (laws_toNeedS.l0 k x0 (x3.set (x4 : Int).toNat (⟨a0.1, a0.2⟩ : S30)) (wrap64 (x4 + 1))) else (none))) else (none)) else (some x3)
def laws_toNeedS.f (k : Nat) (l0 : List (S23)) : Option ((List (S30))) := if 0 ≤ (l0.length : Int) then (if ((l0.length : Int) : Int).toNat ≤ 8796093022208 then (laws_toNeedS.l0 k l0 (List.replicate ((l0.length : Int) : Int).toNat z30) 0) else (none)) else (none)
theorem laws_toNeedS.calls (k : Nat) (A0 : Option Addr) (c0 : Nat) (l0 : List (S23)) (r : List (S30)) (w : World) (c4 : Kd.C k23 w A0 l0.length l0) (c6 : l0.length ≤ c0) (h : laws_toNeedS.f k l0 = some r) :
  Calls Tryz.prog 58 #[.slice A0 l0.length c0] w fun e w' => ∃ c7 : Value, e = .returned (c7) ∧ Kd.R k30 30 w' w.heap.size (fun _ => True) c7 r ∧ Below w.heap.size w w' := by
 have g1 := Tryz.underlying23
 have g2 := Tryz.underlying30
 have e3 := zA c4
 have g3 := zA c6
 clear c4 c6
 have HB := zA (Below.refl w.heap.size w)
 unfold laws_toNeedS.f at h
 have H := h
 clear h
 replace H := zC0 H
 obtain ⟨c2, H⟩ := H
 have e4 := eq_true c2
 have e5 := decide_eq_true c2
 clear c2
 replace H := zC0 H
 obtain ⟨c3, H⟩ := H
 have e6 := eq_true c3
 have e7 := decide_eq_true c3
 clear c3
 obtain ⟨c8, a9⟩ : ∃ y_ : List (S30), y_ = (List.replicate ((l0.length : Int) : Int).toNat z30) := ⟨_, rfl⟩
 replace H : (laws_toNeedS.l0 k l0 c8 0) = some r := zY a9 H
 have c9 := zA a9
 clear a9
 have H' := zA H
 clear H
 go_enter Tryz.func58, Tryz.ntmps58
 go_wp2_with (first | ((with_reducible refine gate_dst (N := 7) rfl ?_); refine Kd.R_make k30 _ 30 rfl (N := 7) rfl 42 _ _ rfl (l0.length : Int) rfl rfl Tryz.underlying42 (.agg #[(.string ⟨#[]⟩), (.string ⟨#[]⟩)]) 32 info30 rfl (by decide) (by omega) z30 (ok := fun _ => True) (okp := fun _ => True) (k30_mkM _ _ _ z30 ) (fun _ hk => hk) trivial (zD) (Nat.le_trans (Nat.mul_le_mul_right _ (zD : (l0.length : Int).toNat ≤ 8796093022208)) (by omega)) (Below.refl _ _) (Nat.le_refl _) ?_; intro e8 w4 a7 hb hg_ hnew_; clear hg_ hnew_; (first | rw [← c9.out] at a7 | (simp only [Int.reduceToNat] at a7; rw [← c9.out] at a7)); have e9 := zA (Kd.R_lower a7 (below_size (zB))); replace HB := zA (below_step (zB) hb); clear hb a7))
 go_loopg [4] k (fun kq v4 w' => ∃ (a1 : List (S30)) (a0 : Int), v4 = .int .i64 a0 ∧ Aside0 (laws_toNeedS.l0 kq l0 a1 a0 = some r) ∧ Aside0 (kq ≤ k) ∧ Aside0 (Kd.R k30 30 w' w.heap.size (fun _ => True) e8 a1) ∧ Aside0 (Below w.heap.size w w'))
 case atStart => exact ⟨(c8), (0), zS, H', ⟨Nat.le_refl _⟩, ⟨zR e9.out⟩, ⟨zB⟩⟩
 case round =>
  clear H'
  try clear c2
  try clear e4
  try clear e5
  try clear p2
  try clear c3
  try clear e6
  try clear e7
  try clear c5
  obtain ⟨a1, a0, rfl, HA, d0, a2, HB⟩ := hrel
  cases gk with
  | zero => exact absurd HA.out (by simp [laws_toNeedS.l0])
  | succ k1 =>
   have H := HA.out
   clear HA
   simp only [laws_toNeedS.l0] at H
   replace H := zI0 H
   rcases H with ⟨f2, H⟩ | ⟨f2, H⟩
   ·replace H := zD0 H
    obtain ⟨g4, H⟩ := H
    replace H := Option.bind_eq_some_iff.mp H
    obtain ⟨⟨a5, a6⟩, d1, H⟩ := H
    try dsimp only at H
    have A8 := zA d1
    clear d1
    replace H := zD0 H
    obtain ⟨g5, H⟩ := H
    obtain ⟨b0, b1⟩ : ∃ y_ : List (S30), y_ = (a1.set (a0 : Int).toNat (⟨a5, a6⟩ : S30)) := ⟨_, rfl⟩
    replace H : (laws_toNeedS.l0 k1 l0 b0 (wrap64 (a0 + 1))) = some r := zY b1 H
    have f3 := zA b1
    clear b1
    have H' := zA H
    clear H
    have b2 : 0 ≤ (a0 : Int) := zD
    have b3 : a0 < (l0.length : Int) := zD
    obtain ⟨g6, f4, d2, d3⟩ := at_T23 e3.out a0 b2 b3
    cases f4
    replace d2 := zx HB d2
    replace d3 := zx HB d3
    replace b2 := eq_true b2
    replace b3 := eq_true b3
    go_wp2_with (first | ((with_reducible refine zq 12 ?_); refine zg (some 20) Tryz.func12 #[.agg #[.string ((rd_T23 l0 a0).f0), .string ((rd_T23 l0 a0).f1)]] ?_; (with_reducible refine (laws_toNeed.calls ((rd_T23 l0 a0).f0) ((rd_T23 l0 a0).f1) a5 a6 _ A8.out).mono ?_); rintro e a4 ⟨rfl, hb⟩; refine ⟨_, rfl, ?_⟩; replace a2 := zr a2 hb; replace HB := zA (below_step (zB) hb); (try clear hb); have b4 : 0 ≤ (a0 : Int) := zD; have b5 : (a0 : Int) < ((a1.length : Int) : Int) := zD; obtain ⟨a3, d4, d5, d6, f5, g7, d7⟩ := Kd.R_form a2.out (by omega); (first | cases d5 | (injection d5 with ea_ en_ ec_; (first | subst ea_ | (injection ea_ with ea_; subst ea_)); subst ec_; clear en_)); have d8 := zA d6; have g8 := zA d7; clear d6 f5 d7; obtain ⟨g9, f6, d9, b6, b7⟩ := Kd.R_elem a2.out z30 (a0 : Int) b4 b5; obtain rfl := k30_openM d9; have h0 : a4.cell? ⟨a3, (a0 : Int).toNat * 2, none⟩ = some (.string ((rd_T30 a1 a0).f0)) := b6 0 _ rfl; have h1 : a4.cell? ⟨a3, (a0 : Int).toNat * 2 + 1, none⟩ = some (.string ((rd_T30 a1 a0).f1)) := b6 1 _ rfl; have h2 : a4.frozen? ⟨a3, (a0 : Int).toNat * 2, none⟩ = false := b7 0; have h3 : a4.frozen? ⟨a3, (a0 : Int).toNat * 2 + 1, none⟩ = false := b7 1; clear f6 b6 b7; (try clear d9); replace b4 := eq_true b4; replace b5 := eq_true b5; have e0 := zA (show Kd.R k30 30 a4 w.heap.size (fun _ => True) (.slice (some ⟨a3, 0, none⟩) a1.length d4) a1 from (zR a2.out)); obtain ⟨h4, e1, e2, a8, b8⟩ := Kd.R_elem e0.out z30 (a0 : Int) (zD) (by have h_ : (a0 : Int) < ((a1.length : Int) : Int) := zD; first | exact h_ | (have e_ := (Kd.R_reads' a2.out).1; omega) | simpa using h_); obtain rfl := k30_openM e2; have b9 := Kd.R_seg e0.out (a0 : Int) (zD) (by have h_ : (a0 : Int) < ((a1.length : Int) : Int) := zD; first | exact h_ | (have e_ := (Kd.R_reads' a2.out).1; omega) | simpa using h_) (seg := [.string a5, .string a6]) (j := 0) e1 a8 (show 2 ≤ 2 from by decide) (x' := (⟨a5, a6⟩ : S30)) (k30_mkM _ _ _ (⟨a5, a6⟩ : S30) ) (fun _ hk => hk); have f7 := a8 0 _ rfl; (try simp only [show (k30).sz = 2 from rfl, Nat.mul_one, Nat.add_zero] at f7); have f8 := b8 0; (try simp only [show (k30).sz = 2 from rfl, Nat.mul_one, Nat.add_zero] at f8); have f9 := a8 1 _ rfl; (try simp only [show (k30).sz = 2 from rfl, Nat.mul_one, Nat.add_zero] at f9); have g0 := b8 1; (try simp only [show (k30).sz = 2 from rfl, Nat.mul_one, Nat.add_zero] at g0); clear e1 a8 b8; (try clear e2)) | ((with_reducible refine gate_store (t := 30) (p := 21) rfl ?_); refine store_event (t := 30) (p := 21) (v := ?vo_w13) (w1 := ((a4.setCell ⟨a3, (a0 : Int).toNat * 2, none⟩ (.string a5)).setCell ⟨a3, (a0 : Int).toNat * 2 + 1, none⟩ (.string a6))) ?hg ?ho ?hn ?hr ?_; (case ho => rfl); (case hg => rfl); (case hn => rfl); (case hr => first | (go_simp; done) | (go_simp; rfl)); intro c1 hw; have hg : a4.grownBy c1 (some a3) := (by rw [hw]; exact b9.2); have hp_ : Kd.R k30 30 c1 w.heap.size (fun _ => True) (.slice (some ⟨a3, 0, none⟩) a1.length d4) b0 := (by rw [hw, f3.out]; exact b9.1); clear b9; replace a2 := zA (hp_); replace HB := zA ((by rw [hw]; exact below_set (below_set (HB.out) d8.out) d8.out : Below w.heap.size w c1)); clear hg hw hp_))
    go_roundg k1
    case measure => have := d0.out; omega
    case rel => exact ⟨(b0), (wrap64 (a0 + 1)), zS, H', ⟨by have := d0.out; omega⟩, ⟨zR a2.out⟩, ⟨zB⟩⟩
   ·obtain rfl := zm H
    go_wp2
    go_ret
    exact ⟨_, zE, zR a2.out, zB⟩
/-! ### laws_toEntry: function 70 -/
def laws_toEntry.f (k : Nat) (a1 : ByteArray) (a2 a3 a4 : Int) (a5 : List ByteArray) (a6 : List (S23)) : Option (ByteArray × Int × Int × Int × List ByteArray × (List (S30))) := (laws_toVer.f k a2 a3 a4 a5).bind fun a0 => ((laws_toNeedS.f k a6).bind fun a7 => (some (a1, a0.1, a0.2.1, a0.2.2.1, a0.2.2.2, a7)))
theorem laws_toEntry.calls (k : Nat) (a0 : ByteArray) (b5 b6 b7 : Int) (c1 : Option Addr) (c2 : Nat) (a8 : List ByteArray) (c3 : Option Addr) (c4 : Nat) (a9 : List (S23)) (r1 : ByteArray) (r2 r3 r4 : Int) (r5 : List ByteArray) (r6 : List (S30)) (w : World) (c6 : Kd.C Kd.string w c1 a8.length a8) (c7 : a8.length ≤ c2) (c8 : Kd.C k23 w c3 a9.length a9) (c9 : a9.length ≤ c4) (h : laws_toEntry.f k a0 b5 b6 b7 a8 a9 = some (r1, r2, r3, r4, r5, r6)) :
  Calls Tryz.prog 70 #[.agg #[.string a0, .int .i64 b5, .int .i64 b6, .int .i64 b7, .slice c1 a8.length c2, .slice c3 a9.length c4]] w fun e w' => ∃ d0 d1 : Value, e = .returned (.agg #[.string r1, .int .i64 r2, .int .i64 r3, .int .i64 r4, d0, d1]) ∧ Kd.R Kd.string 9 w' w.heap.size (fun _ => True) d0 r5 ∧ Kd.R k30 30 w' w.heap.size (fun _ => True) d1 r6 ∧ Below w.heap.size w w' := by
 have e7 := Tryz.underlying100
 have e8 := Tryz.underlying102
 have e9 := Tryz.underlying26
 have f0 := Tryz.underlying32
 have d6 := zA c6
 have d7 := zA c7
 clear c6 c7
 have d8 := zA c8
 have d9 := zA c9
 clear c8 c9
 have HB := zA (Below.refl w.heap.size w)
 unfold laws_toEntry.f at h
 have H := h
 clear h
 replace H := Option.bind_eq_some_iff.mp H
 obtain ⟨⟨a2, a5, a7, b1⟩, d2, H⟩ := H
 try dsimp only at H
 have A2 := zA d2
 clear d2
 replace H := Option.bind_eq_some_iff.mp H
 obtain ⟨b2, d3, H⟩ := H
 try dsimp only at H
 have A3 := zA d3
 clear d3
 simp only [zU] at H
 obtain ⟨rfl, rfl, rfl, rfl, rfl, rfl⟩ := H
 go_enter Tryz.func70, Tryz.ntmps70
 go_wp2_with (first | ((with_reducible refine zd 1 ?_); refine ze 1 100 #[.string a0, .int .i64 b5, .int .i64 b6, .int .i64 b7, .slice c1 a8.length c2, .slice c3 a9.length c4] ?_; intro f1 hg w4 hbox hb; have a1 := zA (hbox); have f2 := zi HB hg; have f3 := zi HB hg; replace HB := zA (below_step (zB) hb); clear hb hbox hg) | ((with_reducible refine zd 2 ?_); refine ze 2 102 #[.string (⟨#[]⟩ : ByteArray), .int .i64 0, .int .i64 0, .int .i64 0, .slice none 0 0, .slice none 0 0] ?_; intro a3 hg w5 hbox hb; have a4 := zA (hbox); have f4 := zi HB hg; have f5 := zi HB hg; replace HB := zh HB hb; have e0 := zA (zL hg (zK a1.out)); have e1 := zA (zJ hg (zK a1.out)); replace a1 := zb a1 hb; clear hb hbox hg) | ((with_reducible refine zd 3 ?_); refine ze 3 102 #[.string (⟨#[]⟩ : ByteArray), .int .i64 0, .int .i64 0, .int .i64 0, .slice none 0 0, .slice none 0 0] ?_; intro b0 hg w6 hbox hb; have a6 := zA (hbox); have f6 := zi HB hg; have f7 := zi HB hg; replace HB := zh HB hb; have e2 := zA (zL hg (zK a1.out)); have e3 := zA (zJ hg (zK a1.out)); replace a1 := zb a1 hb; have d4 := zA (zL hg (zK a4.out)); have e4 := zA (zJ hg (zK a4.out)); replace a4 := zb a4 hb; clear hb hbox hg; have f8 := e0.out; have f9 := e1.out; have g0 := e2.out; have g1 := e3.out; obtain ⟨g2, g3, g4, g5, g6, g7, g8, g9, h0, h1, h2, h3⟩ := ze6 a1.out; have h4 := e4.out; have h5 := d4.out; obtain ⟨h6, h7, h8, h9, i0, i1, i2, i3, i4, i5, i6, i7⟩ := ze6 a6.out) | ((with_reducible refine zq 13 ?_); refine zg (some 9) Tryz.func13 #[.agg #[.int .i64 b5, .int .i64 b6, .int .i64 b7, .slice c1 a8.length c2]] ?_; (with_reducible refine (laws_toVer.calls k b5 b6 b7 _ _ a8 a2 a5 a7 b1 _ ?s1 ?s2 A2.out).mono ?_); (case s1 => exact Kd.C_below d6.out (zW HB.out)); (case s2 => exact d7.out); rintro e i8 ⟨i9, rfl, b8, hb⟩; refine ⟨_, rfl, ?_⟩; have c5 := zA (Kd.R_lower b8 (below_size (zW HB.out))); replace a1 := zb a1 hb; replace a4 := zb a4 hb; replace a6 := zA (blk_below (g := b0) (o := .cells #[.string a0, .int .i64 0, .int .i64 0, .int .i64 0, .slice none 0 0, .slice none 0 0] 102 (0, 0)) (by (with_reducible repeat (first | refine blk_drewN ?_ _ | refine blk_drew ?_ | refine blk_alloc ?_ _)); refine blk_put (cs := #[.string (⟨#[]⟩ : ByteArray), .int .i64 0, .int .i64 0, .int .i64 0, .slice none 0 0, .slice none 0 0]) ?_ 0 _ rfl; (with_reducible repeat (first | refine blk_drewN ?_ _ | refine blk_drew ?_ | refine blk_alloc ?_ _)); exact a6.out) hb); replace HB := zh HB hb; (try clear hb b8); obtain ⟨j0, j1, j2, j3, j4, j5, j6, j7, j8, j9, k0, k1⟩ := ze6 a6.out; obtain ⟨b3, b4, e5⟩ := Kd.R_slice c5.out; subst e5; obtain ⟨k2, k3, k4, k5, k6, k7, k8, k9, l0, l1, l2, l3⟩ := ze6 a1.out) | ((with_reducible refine zq 58 ?_); refine zg (some 13) Tryz.func58 #[.slice c3 a9.length c4] ?_; (with_reducible refine (laws_toNeedS.calls k _ _ a9 b2 _ ?s1 ?s2 A3.out).mono ?_); (case s1 => exact Kd.C_below d8.out (zW HB.out)); (case s2 => exact d9.out); rintro e l4 ⟨l5, rfl, b8, hb⟩; refine ⟨_, rfl, ?_⟩; replace c5 := zA (Kd.R_below (zR (Kd.R_mono (Kd.R_far (p := ⟨b0, 4, none⟩) (Kd.R_far (p := ⟨b0, 3, none⟩) (Kd.R_far (p := ⟨b0, 2, none⟩) (Kd.R_far (p := ⟨b0, 1, none⟩) (Kd.R_types c5.out a6.out (by decide)) (fun _ hk => hk.2) (.int .i64 a2)) (fun _ hk => hk.2) (.int .i64 a5)) (fun _ hk => hk.2) (.int .i64 a7)) (fun _ hk => hk.2) (.slice b3 b1.length b4)) (fun _ h_ => h_.1))) hb); have d5 := zA (Kd.R_lower b8 (below_size (zW HB.out))); replace a1 := zb a1 hb; replace a4 := zb a4 hb; replace a6 := zA (blk_below (g := b0) (o := .cells #[.string a0, .int .i64 a2, .int .i64 a5, .int .i64 a7, .slice b3 b1.length b4, .slice none 0 0] 102 (0, 0)) (by (with_reducible repeat (first | refine blk_drewN ?_ _ | refine blk_drew ?_ | refine blk_alloc ?_ _)); refine blk_put (cs := #[.string a0, .int .i64 a2, .int .i64 a5, .int .i64 a7, .slice none 0 0, .slice none 0 0]) ?_ 4 _ rfl; (with_reducible repeat (first | refine blk_drewN ?_ _ | refine blk_drew ?_ | refine blk_alloc ?_ _)); refine blk_put (cs := #[.string a0, .int .i64 a2, .int .i64 a5, .int .i64 0, .slice none 0 0, .slice none 0 0]) ?_ 3 _ rfl; (with_reducible repeat (first | refine blk_drewN ?_ _ | refine blk_drew ?_ | refine blk_alloc ?_ _)); refine blk_put (cs := #[.string a0, .int .i64 a2, .int .i64 0, .int .i64 0, .slice none 0 0, .slice none 0 0]) ?_ 2 _ rfl; (with_reducible repeat (first | refine blk_drewN ?_ _ | refine blk_drew ?_ | refine blk_alloc ?_ _)); refine blk_put (cs := #[.string a0, .int .i64 0, .int .i64 0, .int .i64 0, .slice none 0 0, .slice none 0 0]) ?_ 1 _ rfl; (with_reducible repeat (first | refine blk_drewN ?_ _ | refine blk_drew ?_ | refine blk_alloc ?_ _)); exact a6.out) hb); replace HB := zh HB hb; (try clear hb b8); obtain ⟨b9, c0, e6⟩ := Kd.R_slice d5.out; subst e6; obtain ⟨l6, l7, l8, l9, m0, m1, m2, m3, m4, m5, m6, m7⟩ := ze6 a6.out; obtain ⟨m8, m9, n0, n1, n2, n3, n4, n5, n6, n7, n8, n9⟩ := ze6 a4.out))
 refine bodyPost_ret (results_cell_row rfl _ _ a3 102 #[.string a0, .int .i64 a2, .int .i64 a5, .int .i64 a7, .slice b3 b1.length b4, .slice b9 b2.length c0] (0, 0) _ rfl (by (with_reducible repeat (first | refine blk_drewN ?_ _ | refine blk_drew ?_ | refine blk_alloc ?_ _)); refine blk_put (cs := #[.string a0, .int .i64 a2, .int .i64 a5, .int .i64 a7, .slice b3 b1.length b4, .slice none 0 0]) ?_ 5 _ rfl; (with_reducible repeat (first | refine blk_drewN ?_ _ | refine blk_drew ?_ | refine blk_alloc ?_ _)); refine blk_put (cs := #[.string a0, .int .i64 a2, .int .i64 a5, .int .i64 a7, .slice none 0 0, .slice none 0 0]) ?_ 4 _ rfl; (with_reducible repeat (first | refine blk_drewN ?_ _ | refine blk_drew ?_ | refine blk_alloc ?_ _)); refine blk_put (cs := #[.string a0, .int .i64 a2, .int .i64 a5, .int .i64 0, .slice none 0 0, .slice none 0 0]) ?_ 3 _ rfl; (with_reducible repeat (first | refine blk_drewN ?_ _ | refine blk_drew ?_ | refine blk_alloc ?_ _)); refine blk_put (cs := #[.string a0, .int .i64 a2, .int .i64 0, .int .i64 0, .slice none 0 0, .slice none 0 0]) ?_ 2 _ rfl; (with_reducible repeat (first | refine blk_drewN ?_ _ | refine blk_drew ?_ | refine blk_alloc ?_ _)); refine blk_put (cs := #[.string a0, .int .i64 0, .int .i64 0, .int .i64 0, .slice none 0 0, .slice none 0 0]) ?_ 1 _ rfl; (with_reducible repeat (first | refine blk_drewN ?_ _ | refine blk_drew ?_ | refine blk_alloc ?_ _)); refine blk_put (cs := #[.string (⟨#[]⟩ : ByteArray), .int .i64 0, .int .i64 0, .int .i64 0, .slice none 0 0, .slice none 0 0]) ?_ 0 _ rfl; (with_reducible repeat (first | refine blk_drewN ?_ _ | refine blk_drew ?_ | refine blk_alloc ?_ _)); refine blk_far ?_ d4.out _; (with_reducible repeat (first | refine blk_drewN ?_ _ | refine blk_drew ?_ | refine blk_alloc ?_ _)); exact a4.out) Tryz.underlying102 rfl (by kernel_rfl)) rfl ?_
 exact ⟨_, _, zE, zR (Kd.R_mono (Kd.R_far (p := ⟨a3, 5, none⟩) (Kd.R_far (p := ⟨a3, 4, none⟩) (Kd.R_far (p := ⟨a3, 3, none⟩) (Kd.R_far (p := ⟨a3, 2, none⟩) (Kd.R_far (p := ⟨a3, 1, none⟩) (Kd.R_far (p := ⟨a3, 0, none⟩) (Kd.R_far (p := ⟨b0, 5, none⟩) (Kd.R_types (Kd.R_types c5.out a6.out (by decide)) a4.out (by decide)) (fun _ hk => hk.1.2) (.slice b9 b2.length c0)) (fun _ hk => hk.2) (.string a0)) (fun _ hk => hk.2) (.int .i64 a2)) (fun _ hk => hk.2) (.int .i64 a5)) (fun _ hk => hk.2) (.int .i64 a7)) (fun _ hk => hk.2) (.slice b3 b1.length b4)) (fun _ hk => hk.2) (.slice b9 b2.length c0)) (fun _ hk => trivial)), zR (Kd.R_mono (Kd.R_far (p := ⟨a3, 5, none⟩) (Kd.R_far (p := ⟨a3, 4, none⟩) (Kd.R_far (p := ⟨a3, 3, none⟩) (Kd.R_far (p := ⟨a3, 2, none⟩) (Kd.R_far (p := ⟨a3, 1, none⟩) (Kd.R_far (p := ⟨a3, 0, none⟩) (Kd.R_far (p := ⟨b0, 5, none⟩) (Kd.R_types (Kd.R_types d5.out a6.out (by decide)) a4.out (by decide)) (fun _ hk => hk.1.2) (.slice b9 b2.length c0)) (fun _ hk => hk.2) (.string a0)) (fun _ hk => hk.2) (.int .i64 a2)) (fun _ hk => hk.2) (.int .i64 a5)) (fun _ hk => hk.2) (.int .i64 a7)) (fun _ hk => hk.2) (.slice b3 b1.length b4)) (fun _ hk => hk.2) (.slice b9 b2.length c0)) (fun _ hk => trivial)), zW HB.out⟩
/-! ### laws_toEntryS: function 23 -/
def laws_toEntryS.l0 : Nat → List (S100) → List (S102) → Int → Option ((List (S102)))
 | 0, _, _, _ => none
 | k + 1, x0, x3, x4 => if x4 < (x0.length : Int) then (if 0 ≤ x4 then ((laws_toEntry.f k ((rd_T100 x0 x4).f0) ((rd_T100 x0 x4).f1.f0) ((rd_T100 x0 x4).f1.f1) ((rd_T100 x0 x4).f1.f2) ((rd_T100 x0 x4).f1.f3) ((rd_T100 x0 x4).f2)).bind fun a0 => (if x4 < (x3.length : Int) then (laws_toEntryS.l0 k x0 (x3.set (x4 : Int).toNat (⟨a0.1, (⟨a0.2.1, a0.2.2.1, a0.2.2.2.1, a0.2.2.2.2.1⟩ : S32), a0.2.2.2.2.2⟩ : S102)) (wrap64 (x4 + 1))) else (none))) else (none)) else (some x3)
def laws_toEntryS.f (k : Nat) (l0 : List (S100)) : Option ((List (S102))) := if 0 ≤ (l0.length : Int) then (if ((l0.length : Int) : Int).toNat ≤ 3198579280802 then (laws_toEntryS.l0 k l0 (List.replicate ((l0.length : Int) : Int).toNat z102) 0) else (none)) else (none)
theorem laws_toEntryS.calls (k : Nat) (A0 : Option Addr) (c0 : Nat) (l0 : List (S100)) (r : List (S102)) (w : World) (d5 : Kd.C k100 w A0 l0.length l0) (d6 : l0.length ≤ c0) (h : laws_toEntryS.f k l0 = some r) :
  Calls Tryz.prog 23 #[.slice A0 l0.length c0] w fun e w' => ∃ d7 : Value, e = .returned (d7) ∧ Kd.S k102 102 w' w.heap.size (fun _ => True) d7 r ∧ Below w.heap.size w w' := by
 have k0 := Tryz.underlying100
 have k2 := Tryz.underlying102
 have g3 := zA d5
 have k3 := zA d6
 clear d5 d6
 have HB := zA (Below.refl w.heap.size w)
 unfold laws_toEntryS.f at h
 have H := h
 clear h
 replace H := zC0 H
 obtain ⟨c2, H⟩ := H
 have g4 := eq_true c2
 have g5 := decide_eq_true c2
 clear c2
 replace H := zC0 H
 obtain ⟨c3, H⟩ := H
 have g6 := eq_true c3
 have g7 := decide_eq_true c3
 clear c3
 obtain ⟨d8, c4⟩ : ∃ y_ : List (S102), y_ = (List.replicate ((l0.length : Int) : Int).toNat z102) := ⟨_, rfl⟩
 replace H : (laws_toEntryS.l0 k l0 d8 0) = some r := zY c4 H
 have d9 := zA c4
 clear c4
 have H' := zA H
 clear H
 go_enter Tryz.func23, Tryz.ntmps23
 go_wp2_with (first | ((with_reducible refine gate_dst (N := 7) rfl ?_); refine Kd.S_make k102 _ 102 rfl (N := 7) rfl 52 _ _ rfl (l0.length : Int) rfl rfl Tryz.underlying52 (.agg #[(.string ⟨#[]⟩), (.int .i64 0), (.int .i64 0), (.int .i64 0), (.slice none 0 0), (.slice none 0 0)]) 88 info102 rfl (by decide) (by omega) z102 (ok := fun _ => True) (okp := fun _ => True) (k102_mkM _ _ _ z102 (Kd.R_nil _ _ _ _ _) (Kd.R_nil _ _ _ _ _)) (fun _ hk => hk) trivial (zD) (Nat.le_trans (Nat.mul_le_mul_right _ (zD : (l0.length : Int).toNat ≤ 3198579280802)) (by omega)) (Below.refl _ _) (Nat.le_refl _) ?_; intro g8 w4 b4 hb hg_ hnew_; clear hg_ hnew_; (first | rw [← d9.out] at b4 | (simp only [Int.reduceToNat] at b4; rw [← d9.out] at b4)); have g9 := zA (Kd.S_lower b4 (below_size (zB))); replace HB := zA (below_step (zB) hb); clear hb b4))
 go_loopg [4] k (fun kq v4 w' => ∃ (a4 : List (S102)) (a0 : Int), v4 = .int .i64 a0 ∧ Aside0 (laws_toEntryS.l0 kq l0 a4 a0 = some r) ∧ Aside0 (kq ≤ k) ∧ Aside0 (Kd.S k102 102 w' w.heap.size (fun _ => True) g8 a4) ∧ Aside0 (Below w.heap.size w w'))
 case atStart => exact ⟨(d8), (0), zS, H', ⟨Nat.le_refl _⟩, ⟨by (with_reducible repeat (first | apply Kd.S_alloc | apply Kd.S_drewN | apply Kd.S_drew)); exact g9.out⟩, ⟨zB⟩⟩
 case round =>
  clear H'
  try clear c2
  try clear g4
  try clear g5
  try clear p2
  try clear c3
  try clear g6
  try clear g7
  obtain ⟨a4, a0, rfl, HA, e0, a2, HB⟩ := hrel
  cases gk with
  | zero => exact absurd HA.out (by simp [laws_toEntryS.l0])
  | succ k1 =>
   have H := HA.out
   clear HA
   simp only [laws_toEntryS.l0] at H
   replace H := zI0 H
   rcases H with ⟨h0, H⟩ | ⟨h0, H⟩
   ·replace H := zD0 H
    obtain ⟨k4, H⟩ := H
    replace H := Option.bind_eq_some_iff.mp H
    obtain ⟨⟨a9, b0, b1, b2, b5, b6⟩, e1, H⟩ := H
    try dsimp only at H
    have A8 := zA e1
    clear e1
    replace H := zD0 H
    obtain ⟨k5, H⟩ := H
    obtain ⟨c5, c6⟩ : ∃ y_ : List (S102), y_ = (a4.set (a0 : Int).toNat (⟨a9, (⟨b0, b1, b2, b5⟩ : S32), b6⟩ : S102)) := ⟨_, rfl⟩
    replace H : (laws_toEntryS.l0 k1 l0 c5 (wrap64 (a0 + 1))) = some r := zY c6 H
    have h1 := zA c6
    clear c6
    have H' := zA H
    clear H
    have c7 : 0 ≤ (a0 : Int) := zD
    have c8 : a0 < (l0.length : Int) := zD
    obtain ⟨k6, h2, h3, h4, h5, h6, e2, e3, e4, e5, e6, e7, e8, e9, f4, f5⟩ := at_T100 g3.out a0 c7 c8
    cases h6
    replace e2 := zx HB e2
    replace e3 := zx HB e3
    replace e4 := zx HB e4
    replace e5 := zx HB e5
    replace e6 := zx HB e6
    replace e7 := zx HB e7
    have h7 := zA e9
    have h8 := zA e8
    clear e9 e8
    have h9 := zA f5
    have i0 := zA f4
    clear f5 f4
    replace c7 := eq_true c7
    replace c8 := eq_true c8
    go_wp2_with (first | ((with_reducible refine zq 70 ?_); refine zg (some 20) Tryz.func70 #[.agg #[.string ((rd_T100 l0 a0).f0), .int .i64 ((rd_T100 l0 a0).f1.f0), .int .i64 ((rd_T100 l0 a0).f1.f1), .int .i64 ((rd_T100 l0 a0).f1.f2), .slice h2 ((rd_T100 l0 a0).f1.f3).length h3, .slice h4 ((rd_T100 l0 a0).f2).length h5]] ?_; (with_reducible refine (laws_toEntry.calls k1 ((rd_T100 l0 a0).f0) ((rd_T100 l0 a0).f1.f0) ((rd_T100 l0 a0).f1.f1) ((rd_T100 l0 a0).f1.f2) _ _ ((rd_T100 l0 a0).f1.f3) _ _ ((rd_T100 l0 a0).f2) a9 b0 b1 b2 b5 b6 _ ?s1 ?s2 ?s3 ?s4 A8.out).mono ?_); (case s1 => exact zC (Kd.C_below h7.out HB.out)); (case s2 => exact h8.out); (case s3 => exact zC (Kd.C_below h9.out HB.out)); (case s4 => exact i0.out); rintro e a3 ⟨b7, b8, rfl, c9, d0, hb⟩; refine ⟨_, rfl, ?_⟩; replace a2 := zA (Kd.S_mono (Kd.S_told (Kd.S_told (Kd.S_old (by (with_reducible repeat (first | apply Kd.S_alloc | apply Kd.S_drewN | apply Kd.S_drew)); exact a2.out) hb) (Kd.R_base c9)) (Kd.R_base d0)) (fun _ h_ => h_.1)); have b9 := zA (Kd.R_lower c9 (below_size (zB))); have c1 := zA (Kd.R_lower d0 (below_size (zB))); replace HB := zA (below_step (zB) hb); (try clear hb c9 d0); have d1 : 0 ≤ (a0 : Int) := zD; have d2 : (a0 : Int) < ((a4.length : Int) : Int) := zD; obtain ⟨a1, f6, f7, f8, i1, k7, f9⟩ := Kd.S_form a2.out (by omega); (first | cases f7 | (injection f7 with ea_ en_ ec_; (first | subst ea_ | (injection ea_ with ea_; subst ea_)); subst ec_; clear en_)); have b3 := zA f8; have k8 := zA f9; clear f8 i1 f9; obtain ⟨_, k9, i2, g0, a5, a6, _, _⟩ := Kd.S_elem a2.out z102 (a0 : Int) d1 d2; obtain ⟨i3, i4, rfl, l1, l2⟩ := k102_openM g0; have l3 : a3.cell? ⟨a1, (a0 : Int).toNat * 6, none⟩ = some (.string ((rd_T102 a4 a0).f0)) := a5 0 _ rfl; have l4 : a3.cell? ⟨a1, (a0 : Int).toNat * 6 + 1, none⟩ = some (.int .i64 ((rd_T102 a4 a0).f1.f0)) := a5 1 _ rfl; have l5 : a3.cell? ⟨a1, (a0 : Int).toNat * 6 + 2, none⟩ = some (.int .i64 ((rd_T102 a4 a0).f1.f1)) := a5 2 _ rfl; have l6 : a3.cell? ⟨a1, (a0 : Int).toNat * 6 + 3, none⟩ = some (.int .i64 ((rd_T102 a4 a0).f1.f2)) := a5 3 _ rfl; have l7 : a3.cell? ⟨a1, (a0 : Int).toNat * 6 + 4, none⟩ = some (i3) := a5 4 _ rfl; have l8 : a3.cell? ⟨a1, (a0 : Int).toNat * 6 + 5, none⟩ = some (i4) := a5 5 _ rfl; have l9 : a3.frozen? ⟨a1, (a0 : Int).toNat * 6, none⟩ = false := a6 0; have m0 : a3.frozen? ⟨a1, (a0 : Int).toNat * 6 + 1, none⟩ = false := a6 1; have m1 : a3.frozen? ⟨a1, (a0 : Int).toNat * 6 + 2, none⟩ = false := a6 2; have m2 : a3.frozen? ⟨a1, (a0 : Int).toNat * 6 + 3, none⟩ = false := a6 3; have m3 : a3.frozen? ⟨a1, (a0 : Int).toNat * 6 + 4, none⟩ = false := a6 4; have m4 : a3.frozen? ⟨a1, (a0 : Int).toNat * 6 + 5, none⟩ = false := a6 5; clear i2 a5 a6; (try clear g0); replace d1 := eq_true d1; replace d2 := eq_true d2; have n_ := zA (Kd.S_mono (ok' := (fun k_ => some k_ ≠ (b7 : Value).ownBlock ∧ some k_ ≠ (b8 : Value).ownBlock)) a2.out (fun k_ hk => ⟨hk.1.2, hk.2⟩)); clear a2; have a2 := n_; clear n_; have i5 := zA (show Kd.S k102 102 a3 w.heap.size (fun k_ => ((fun _ => True)) k_ ∧ ¬ ((fun k_ => some k_ = (b7 : Value).ownBlock ∨ some k_ = (b8 : Value).ownBlock)) k_) (.slice (some ⟨a1, 0, none⟩) a4.length f6) a4 from (by (with_reducible repeat (first | apply Kd.S_alloc | apply Kd.S_drewN | apply Kd.S_drew)); exact Kd.S_mono a2.out (fun k_ hk => ⟨trivial, fun e_ => e_.elim (fun h_ => hk.1 h_) (fun h_ => hk.2 h_)⟩))); obtain ⟨m5, m6, i6, g1, a7, a8, i7, g2⟩ := Kd.S_elem i5.out z102 (a0 : Int) (zD) (by have h_ : (a0 : Int) < ((a4.length : Int) : Int) := zD; first | exact h_ | (have e_ := (Kd.S_reads' a2.out).1; omega) | simpa using h_); obtain ⟨m7, m8, rfl, m9, n0⟩ := k102_openM g1; have d3 := Kd.S_seg g2 (zD) (by have h_ : (a0 : Int) < ((a4.length : Int) : Int) := zD; first | exact h_ | (have e_ := (Kd.S_reads' a2.out).1; omega) | simpa using h_) (seg := [.string a9, .int .i64 b0, .int .i64 b1, .int .i64 b2, b7, b8]) (j := 0) (show 6 ≤ 6 from by decide) (x' := (⟨a9, (⟨b0, b1, b2, b5⟩ : S32), b6⟩ : S102)) (k102_mkM _ _ _ (⟨a9, (⟨b0, b1, b2, b5⟩ : S32), b6⟩ : S102) (Kd.R_mono (Kd.R_tight rfl (Kd.R_mono (ok' := fun k_ => ((fun _ => True)) k_ ∧ k_ ≠ a1) (Kd.R_apart' (b9.out) (Kd.S_typed a2.out) (by decide)) (fun k_ hk => ⟨trivial, fun e_ => (hk.2) (by rw [e_]; rfl)⟩))) (fun _ h_ => Or.inr (Or.inl h_))) (Kd.R_mono (Kd.R_tight rfl (Kd.R_mono (ok' := fun k_ => ((fun _ => True)) k_ ∧ k_ ≠ a1) (Kd.R_apart' (c1.out) (Kd.S_typed a2.out) (by decide)) (fun k_ hk => ⟨trivial, fun e_ => (hk.2) (by rw [e_]; rfl)⟩))) (fun _ h_ => Or.inr (Or.inr (h_))))) (fun _ hk => hk) (fun k_ hk_ => hk_.elim (fun h_ => ((Kd.R_mono (ok' := fun k_ => ((fun _ => True)) k_ ∧ k_ ≠ a1) (Kd.R_apart' (b9.out) (Kd.S_typed a2.out) (by decide)) (fun k_ hk => ⟨trivial, fun e_ => (hk.2) (by rw [e_]; rfl)⟩))).1 k_ h_.symm) (fun h_ => ((Kd.R_mono (ok' := fun k_ => ((fun _ => True)) k_ ∧ k_ ≠ a1) (Kd.R_apart' (c1.out) (Kd.S_typed a2.out) (by decide)) (fun k_ hk => ⟨trivial, fun e_ => (hk.2) (by rw [e_]; rfl)⟩))).1 k_ h_.symm)); have i8 := a7 0 _ rfl; (try simp only [show (k102).sz = 6 from rfl, Nat.mul_one, Nat.add_zero] at i8); have i9 := a8 0; (try simp only [show (k102).sz = 6 from rfl, Nat.mul_one, Nat.add_zero] at i9); have j0 := a7 1 _ rfl; (try simp only [show (k102).sz = 6 from rfl, Nat.mul_one, Nat.add_zero] at j0); have j1 := a8 1; (try simp only [show (k102).sz = 6 from rfl, Nat.mul_one, Nat.add_zero] at j1); have j2 := a7 2 _ rfl; (try simp only [show (k102).sz = 6 from rfl, Nat.mul_one, Nat.add_zero] at j2); have j3 := a8 2; (try simp only [show (k102).sz = 6 from rfl, Nat.mul_one, Nat.add_zero] at j3); have j4 := a7 3 _ rfl; (try simp only [show (k102).sz = 6 from rfl, Nat.mul_one, Nat.add_zero] at j4); have j5 := a8 3; (try simp only [show (k102).sz = 6 from rfl, Nat.mul_one, Nat.add_zero] at j5); have j6 := a7 4 _ rfl; (try simp only [show (k102).sz = 6 from rfl, Nat.mul_one, Nat.add_zero] at j6); have j7 := a8 4; (try simp only [show (k102).sz = 6 from rfl, Nat.mul_one, Nat.add_zero] at j7); have j8 := a7 5 _ rfl; (try simp only [show (k102).sz = 6 from rfl, Nat.mul_one, Nat.add_zero] at j8); have j9 := a8 5; (try simp only [show (k102).sz = 6 from rfl, Nat.mul_one, Nat.add_zero] at j9); clear i6 a7 a8; (try clear g1); clear i7 g2) | ((with_reducible refine gate_store (t := 102) (p := 21) rfl ?_); refine store_event (t := 102) (p := 21) (v := ?vo_w13) (w1 := ((((((a3.setCell ⟨a1, (a0 : Int).toNat * 6, none⟩ (.string a9)).setCell ⟨a1, (a0 : Int).toNat * 6 + 1, none⟩ (.int .i64 b0)).setCell ⟨a1, (a0 : Int).toNat * 6 + 2, none⟩ (.int .i64 b1)).setCell ⟨a1, (a0 : Int).toNat * 6 + 3, none⟩ (.int .i64 b2)).setCell ⟨a1, (a0 : Int).toNat * 6 + 4, none⟩ (b7)).setCell ⟨a1, (a0 : Int).toNat * 6 + 5, none⟩ (b8))) ?hg ?ho ?hn ?hr ?_; (case ho => rfl); (case hg => rfl); (case hn => rfl); (case hr => first | (go_simp; done) | (go_simp; rfl) | ((try (obtain ⟨_, _, e_⟩ := Kd.R_slice b9.out; subst e_)); (try (obtain ⟨_, _, e_⟩ := Kd.R_slice c1.out; subst e_)); first | (go_simp; done) | (go_simp; rfl))); intro d4 hw; have hg : a3.grownBy d4 (some a1) := (by rw [hw]; exact d3.2); have hp_ : Kd.S k102 102 d4 w.heap.size (fun _ => True) (.slice (some ⟨a1, 0, none⟩) a4.length f6) c5 := (by rw [hw, h1.out]; exact d3.1); clear d3; replace a2 := zA (hp_); replace HB := zA ((by rw [hw]; exact below_set (below_set (below_set (below_set (below_set (below_set (HB.out) b3.out) b3.out) b3.out) b3.out) b3.out) b3.out : Below w.heap.size w d4)); clear b9 c1; clear hg hw hp_))
    go_roundg k1
    case measure => have := e0.out; omega
    case rel => exact ⟨(c5), (wrap64 (a0 + 1)), zS, H', ⟨by have := e0.out; omega⟩, ⟨by (with_reducible repeat (first | apply Kd.S_alloc | apply Kd.S_drewN | apply Kd.S_drew)); exact a2.out⟩, ⟨zB⟩⟩
   ·obtain rfl := zm H
    go_wp2
    go_ret
    exact ⟨_, zE, by (with_reducible repeat (first | apply Kd.S_alloc | apply Kd.S_drewN | apply Kd.S_drew)); exact a2.out, zB⟩
/-! ### impl_inRange: function 113 -/
def impl_inRange.f (a0 a1 a2 : Int) : Option (Bool) := if a0 ≥ a1 then (some (decide (a0 ≤ a2))) else (some false)
theorem impl_inRange.calls (a0 a1 a2 : Int) (r : Bool) (w : World) (h : impl_inRange.f a0 a1 a2 = some r) :
  Calls Tryz.prog 113 #[.int .i64 a0, .int .i64 a1, .int .i64 a2] w fun e w' => e = .returned (.bool r) ∧ Drawn0 w w' := by
 unfold impl_inRange.f at h
 have H := h
 clear h
 replace H := zI1 H
 rcases H with ⟨c4, H⟩ | ⟨c4, H⟩
 ·have a3 : decide (a1 ≤ a0) = true := decide_eq_true c4
  clear c4
  obtain rfl := zm H
  go_enter Tryz.func113, Tryz.ntmps113
  go_wp2
  go_ret
  exact ⟨by first | rfl | (simp; done) | (simp [*]; done) | (simp; rw [Bool.eq_iff_iff]; simp; done), by repeat (first | exact Drawn0.refl _ | apply Drawn0.step)⟩
 ·have a3 : decide (a1 ≤ a0) = false := decide_eq_false c4
  clear c4
  obtain rfl := zm H
  go_enter Tryz.func113, Tryz.ntmps113
  go_wp2
  go_ret
  exact ⟨by first | rfl | (simp; done) | (simp [*]; done) | (simp; rw [Bool.eq_iff_iff]; simp; done), by repeat (first | exact Drawn0.refl _ | apply Drawn0.step)⟩
/-! ### impl_isSmall: function 114 -/
def impl_isSmall.f (a0 : Int) : Option (Bool) := if a0 ≥ 97 then (some (decide (a0 ≤ 122))) else (some false)
theorem impl_isSmall.calls (a0 : Int) (r : Bool) (w : World) (h : impl_isSmall.f a0 = some r) :
  Calls Tryz.prog 114 #[.int .u8 a0] w fun e w' => e = .returned (.bool r) ∧ Drawn0 w w' := by
 unfold impl_isSmall.f at h
 have H := h
 clear h
 replace H := zI1 H
 rcases H with ⟨c2, H⟩ | ⟨c2, H⟩
 ·have a1 : decide (97 ≤ a0) = true := decide_eq_true c2
  clear c2
  obtain rfl := zm H
  go_enter Tryz.func114, Tryz.ntmps114
  go_wp2
  go_ret
  exact ⟨by first | rfl | (simp; done) | (simp [*]; done) | (simp; rw [Bool.eq_iff_iff]; simp; done), by repeat (first | exact Drawn0.refl _ | apply Drawn0.step)⟩
 ·have a1 : decide (97 ≤ a0) = false := decide_eq_false c2
  clear c2
  obtain rfl := zm H
  go_enter Tryz.func114, Tryz.ntmps114
  go_wp2
  go_ret
  exact ⟨by first | rfl | (simp; done) | (simp [*]; done) | (simp; rw [Bool.eq_iff_iff]; simp; done), by repeat (first | exact Drawn0.refl _ | apply Drawn0.step)⟩
/-! ### impl_isFigure: function 115 -/
def impl_isFigure.f (a0 : Int) : Option (Bool) := if a0 ≥ 48 then (some (decide (a0 ≤ 57))) else (some false)
theorem impl_isFigure.calls (a0 : Int) (r : Bool) (w : World) (h : impl_isFigure.f a0 = some r) :
  Calls Tryz.prog 115 #[.int .u8 a0] w fun e w' => e = .returned (.bool r) ∧ Drawn0 w w' := by
 unfold impl_isFigure.f at h
 have H := h
 clear h
 replace H := zI1 H
 rcases H with ⟨c2, H⟩ | ⟨c2, H⟩
 ·have a1 : decide (48 ≤ a0) = true := decide_eq_true c2
  clear c2
  obtain rfl := zm H
  go_enter Tryz.func115, Tryz.ntmps115
  go_wp2
  go_ret
  exact ⟨by first | rfl | (simp; done) | (simp [*]; done) | (simp; rw [Bool.eq_iff_iff]; simp; done), by repeat (first | exact Drawn0.refl _ | apply Drawn0.step)⟩
 ·have a1 : decide (48 ≤ a0) = false := decide_eq_false c2
  clear c2
  obtain rfl := zm H
  go_enter Tryz.func115, Tryz.ntmps115
  go_wp2
  go_ret
  exact ⟨by first | rfl | (simp; done) | (simp [*]; done) | (simp; rw [Bool.eq_iff_iff]; simp; done), by repeat (first | exact Drawn0.refl _ | apply Drawn0.step)⟩
/-! ### impl_NameOk: function 61 -/
mutual
def impl_NameOk.l0 : Nat → ByteArray → Int → Option (Bool)
 | 0, _, _ => none
 | k + 1, x0, x3 => if x3 < (x0.size : Int) then (impl_NameOk.j1 k x0 x3) else ((impl_inRange.f (x0.size : Int) 1 10).bind fun a0 => (some a0))
def impl_NameOk.j1 : Nat → ByteArray → Int → Option (Bool)
 | 0, _, _ => none
 | k + 1, x0, x3 => if 0 ≤ x3 then (if x3 < (x0.size : Int) then ((impl_isSmall.f (bt x0 x3)).bind fun a1 => (if a1 = true then (impl_NameOk.l0 k x0 (wrap64 (x3 + 1))) else (if x3 = 0 then (some false) else ((impl_isFigure.f (bt x0 x3)).bind fun a2 => (if a2 = true then (impl_NameOk.l0 k x0 (wrap64 (x3 + 1))) else (if (bt x0 x3) = 45 then (impl_NameOk.l0 k x0 (wrap64 (x3 + 1))) else (some false))))))) else (none)) else (none)
end
def impl_NameOk.f (k : Nat) (a0 : ByteArray) : Option (Bool) := impl_NameOk.l0 k a0 0
theorem impl_NameOk.calls (k : Nat) (a0 : ByteArray) (r : Bool) (w : World) (h : impl_NameOk.f k a0 = some r) :
  Calls Tryz.prog 61 #[.string a0] w fun e w' => e = .returned (.bool r) ∧ Drawn0 w w' := by
 unfold impl_NameOk.f at h
 have H := h
 clear h
 have H' := zA H
 clear H
 go_enter Tryz.func61, Tryz.ntmps61
 go_wp2
 go_loopg [3] k (fun kq v3 w' => ∃ (a1 : Int), v3 = .int .i64 a1 ∧ Aside0 (impl_NameOk.l0 kq a0 a1 = some r) ∧ Aside0 (kq ≤ k) ∧ Drawn0 w w')
 case atStart => exact ⟨(0), zS, H', ⟨Nat.le_refl _⟩, by repeat (first | exact Drawn0.refl _ | apply Drawn0.step)⟩
 case round =>
  clear H'
  obtain ⟨a1, rfl, HA, a4, ⟨m1, rfl⟩⟩ := hrel
  cases gk with
  | zero => exact absurd HA.out (by simp [impl_NameOk.l0])
  | succ k1 =>
   have H := HA.out
   clear HA
   simp only [impl_NameOk.l0] at H
   have b2 := zA H
   clear H
   go_upto_if 7 with (fail)
   go_cut [] (fun wc => ∃ (kq : Nat), Aside0 (impl_NameOk.j1 kq a0 a1 = some r) ∧ Aside0 (kq ≤ k1) ∧ Drawn0 w wc)
   case first =>
    have H := b2.out
    clear b2
    replace H := zI0 H
    rcases H with ⟨a5, H⟩ | ⟨a5, H⟩
    ·(first | rw [a5] | (simp only [i64_w, i32_w]; rw [a5]) | skip)
     have H' := zA H
     clear H
     go_wp2
     go_meet
     case rel => exact ⟨_, (by first | exact H' | (subst_vars; exact H')), ⟨by have := a4.out; first | omega | exact Nat.le_refl _⟩, by repeat (first | exact Drawn0.refl _ | apply Drawn0.step)⟩
    ·(first | rw [a5] | (simp only [i64_w, i32_w]; rw [a5]) | skip)
     replace H := Option.bind_eq_some_iff.mp H
     obtain ⟨b9, b5, H⟩ := H
     try dsimp only at H
     have A4 := zA b5
     clear b5
     obtain rfl := zm H
     go_wp2_with (first | ((with_reducible refine zq 113 ?_); refine zg (some 34) Tryz.func113 #[.int .i64 (a0.size : Int), .int .i64 1, .int .i64 10] ?_; (with_reducible refine (impl_inRange.calls (a0.size : Int) 1 10 b9 _ A4.out).mono ?_); rintro e w' ⟨rfl, ⟨nd, rfl⟩⟩; refine ⟨_, rfl, ?_⟩))
     go_ret
     exact ⟨by first | rfl | (simp; done) | (simp [*]; done) | (simp; rw [Bool.eq_iff_iff]; simp; done), by repeat (first | exact Drawn0.refl _ | apply Drawn0.step)⟩
   case rest =>
    clear b2
    try clear c1
    try clear p2
    try clear c3
    try clear a5
    obtain ⟨kq, HA, a6, ⟨c7, rfl⟩⟩ := hcut
    cases kq with
    | zero => exact absurd HA.out (by simp [impl_NameOk.j1])
    | succ b3 =>
     have H := HA.out
     clear HA
     simp only [impl_NameOk.j1] at H
     replace H := zD0 H
     obtain ⟨c8, H⟩ := H
     replace H := zD0 H
     obtain ⟨c9, H⟩ := H
     replace H := Option.bind_eq_some_iff.mp H
     obtain ⟨d0, b6, H⟩ := H
     try dsimp only at H
     have A8 := zA b6
     clear b6
     replace H := zB0 H
     rcases H with ⟨rfl, H⟩ | ⟨rfl, H⟩
     ·have H' := zA H
      clear H
      have p7 : 0 ≤ (a1 : Int) := zD
      have q7 : a1 < (a0.size : Int) := zD
      have b1 := bt_at a0 a1
      replace p7 := eq_true p7
      replace q7 := eq_true q7
      go_wp2_with (first | ((with_reducible refine zq 114 ?_); refine zg (some 13) Tryz.func114 #[.int .u8 (bt a0 a1)] ?_; (with_reducible refine (impl_isSmall.calls (bt a0 a1) true _ A8.out).mono ?_); rintro e w' ⟨rfl, ⟨nd, rfl⟩⟩; refine ⟨_, rfl, ?_⟩))
      go_roundg b3
      case measure => have := a4.out; have := a6.out; omega
      case rel => exact ⟨(wrap64 (a1 + 1)), zS, H', ⟨by have := a4.out; have := a6.out; omega⟩, by repeat (first | exact Drawn0.refl _ | apply Drawn0.step)⟩
     ·replace H := zI1 H
      rcases H with ⟨a7, H⟩ | ⟨a7, H⟩
      ·have c0 := beq_iff_eq.mpr a7
       have c2 := bne_eq_false_iff_eq.mpr a7
       clear a7
       obtain rfl := zm H
       have p7 : 0 ≤ (a1 : Int) := zD
       have q7 : a1 < (a0.size : Int) := zD
       have b1 := bt_at a0 a1
       replace p7 := eq_true p7
       replace q7 := eq_true q7
       go_wp2_with (first | ((with_reducible refine zq 114 ?_); refine zg (some 13) Tryz.func114 #[.int .u8 (bt a0 a1)] ?_; (with_reducible refine (impl_isSmall.calls (bt a0 a1) false _ A8.out).mono ?_); rintro e w' ⟨rfl, ⟨nd, rfl⟩⟩; refine ⟨_, rfl, ?_⟩))
       go_ret
       exact ⟨by first | rfl | (simp; done) | (simp [*]; done) | (simp; rw [Bool.eq_iff_iff]; simp; done), by repeat (first | exact Drawn0.refl _ | apply Drawn0.step)⟩
      ·have c0 := beq_eq_false_iff_ne.mpr a7
       have c2 := bne_iff_ne.mpr a7
       replace H := Option.bind_eq_some_iff.mp H
       obtain ⟨d1, b7, H⟩ := H
       try dsimp only at H
       have b4 := zA b7
       clear b7
       replace H := zB0 H
       rcases H with ⟨rfl, H⟩ | ⟨rfl, H⟩
       ·have H' := zA H
        clear H
        have p7 : 0 ≤ (a1 : Int) := zD
        have q7 : a1 < (a0.size : Int) := zD
        have b1 := bt_at a0 a1
        replace p7 := eq_true p7
        replace q7 := eq_true q7
        go_wp2_with (first | ((with_reducible refine zq 114 ?_); refine zg (some 13) Tryz.func114 #[.int .u8 (bt a0 a1)] ?_; (with_reducible refine (impl_isSmall.calls (bt a0 a1) false _ A8.out).mono ?_); rintro e w' ⟨rfl, ⟨nd, rfl⟩⟩; refine ⟨_, rfl, ?_⟩; have a2 : 0 ≤ (a1 : Int) := zD; have a3 : a1 < (a0.size : Int) := zD; have b8 := bt_at a0 a1; replace a2 := eq_true a2; replace a3 := eq_true a3) | (go_at_call 115; (with_reducible refine (impl_isFigure.calls (bt a0 a1) true _ b4.out).mono ?_); rintro e w' ⟨rfl, ⟨nd, rfl⟩⟩))
        go_roundg b3
        case measure => have := a4.out; have := a6.out; omega
        case rel => exact ⟨(wrap64 (a1 + 1)), zS, H', ⟨by have := a4.out; have := a6.out; omega⟩, by repeat (first | exact Drawn0.refl _ | apply Drawn0.step)⟩
       ·replace H := zI1 H
        rcases H with ⟨a8, H⟩ | ⟨a8, H⟩
        ·have c4 := beq_iff_eq.mpr a8
         have c5 := bne_eq_false_iff_eq.mpr a8
         clear a8
         have H' := zA H
         clear H
         have p7 : 0 ≤ (a1 : Int) := zD
         have q7 : a1 < (a0.size : Int) := zD
         have b1 := bt_at a0 a1
         replace p7 := eq_true p7
         replace q7 := eq_true q7
         go_wp2_with (first | ((with_reducible refine zq 114 ?_); refine zg (some 13) Tryz.func114 #[.int .u8 (bt a0 a1)] ?_; (with_reducible refine (impl_isSmall.calls (bt a0 a1) false _ A8.out).mono ?_); rintro e w' ⟨rfl, ⟨nd, rfl⟩⟩; refine ⟨_, rfl, ?_⟩; have a2 : 0 ≤ (a1 : Int) := zD; have a3 : a1 < (a0.size : Int) := zD; have b8 := bt_at a0 a1; replace a2 := eq_true a2; replace a3 := eq_true a3) | (go_at_call 115; (with_reducible refine (impl_isFigure.calls (bt a0 a1) false _ b4.out).mono ?_); rintro e w' ⟨rfl, ⟨nd, rfl⟩⟩; have a9 : 0 ≤ (a1 : Int) := zD; have b0 : a1 < (a0.size : Int) := zD; have c6 := bt_at a0 a1; replace a9 := eq_true a9; replace b0 := eq_true b0))
         go_roundg b3
         case measure => have := a4.out; have := a6.out; omega
         case rel => exact ⟨(wrap64 (a1 + 1)), zS, H', ⟨by have := a4.out; have := a6.out; omega⟩, by repeat (first | exact Drawn0.refl _ | apply Drawn0.step)⟩
        ·have c4 := beq_eq_false_iff_ne.mpr a8
         have c5 := bne_iff_ne.mpr a8
         obtain rfl := zm H
         have p7 : 0 ≤ (a1 : Int) := zD
         have q7 : a1 < (a0.size : Int) := zD
         have b1 := bt_at a0 a1
         replace p7 := eq_true p7
         replace q7 := eq_true q7
         go_wp2_with (first | ((with_reducible refine zq 114 ?_); refine zg (some 13) Tryz.func114 #[.int .u8 (bt a0 a1)] ?_; (with_reducible refine (impl_isSmall.calls (bt a0 a1) false _ A8.out).mono ?_); rintro e w' ⟨rfl, ⟨nd, rfl⟩⟩; refine ⟨_, rfl, ?_⟩; have a2 : 0 ≤ (a1 : Int) := zD; have a3 : a1 < (a0.size : Int) := zD; have b8 := bt_at a0 a1; replace a2 := eq_true a2; replace a3 := eq_true a3) | (go_at_call 115; (with_reducible refine (impl_isFigure.calls (bt a0 a1) false _ b4.out).mono ?_); rintro e w' ⟨rfl, ⟨nd, rfl⟩⟩; have a9 : 0 ≤ (a1 : Int) := zD; have b0 : a1 < (a0.size : Int) := zD; have c6 := bt_at a0 a1; replace a9 := eq_true a9; replace b0 := eq_true b0))
         go_ret
         exact ⟨by first | rfl | (simp; done) | (simp [*]; done) | (simp; rw [Bool.eq_iff_iff]; simp; done), by repeat (first | exact Drawn0.refl _ | apply Drawn0.step)⟩
/-! ### strings_Split: function 81 -/
def strings_Split.f (a0 a1 : ByteArray) : Option (List ByteArray) := if a0.size < 4294967281 ∧ 1 ≤ a1.size then some (Lib.splitB a1 0 (Lib.countB a0 a1) a0) else none
theorem strings_Split.calls (a0 a1 : ByteArray) (r : List ByteArray) (w : World) (hG : GW w) (h : strings_Split.f a0 a1 = some r) :
  Calls Tryz.prog 81 #[.string a0, .string a1] w fun e w' => ∃ a2 : Value, e = .returned (a2) ∧ Kd.R Kd.string 9 w' w.heap.size (fun _ => True) a2 r ∧ Below w.heap.size w w' := by
 unfold strings_Split.f at h
 split at h
 ·rename_i hs
  obtain rfl := Option.some.inj h
  obtain ⟨m, hm⟩ := hG.maxLen
  refine (Tryz.strings_Split a0 a1 m w hs.1 hm hs.2).mono ?_
  rintro e w' ⟨rfl, rfl⟩
  have hl := Lib.splitB_all a1 hs.2 0 _ a0 rfl
  have hle := Lib.countB_le a1 hs.2 a0.size a0 (Nat.le_refl _)
  exact ⟨_, rfl, Lb.split_R w 9 _ _ hl (by omega), below_alloc (Below.refl _ _) _⟩
 ·cases h
/-! ### impl_isFigures: function 151 -/
def impl_isFigures.l0 : Nat → ByteArray → Int → Option (Bool)
 | 0, _, _ => none
 | k + 1, x0, x3 => if x3 < (x0.size : Int) then (if 0 ≤ x3 then ((impl_isFigure.f (bt x0 x3)).bind fun a0 => (if a0 = true then (impl_isFigures.l0 k x0 (wrap64 (x3 + 1))) else (some false))) else (none)) else (some (x0.toList != ([] : List UInt8)))
def impl_isFigures.f (k : Nat) (a0 : ByteArray) : Option (Bool) := impl_isFigures.l0 k a0 0
theorem impl_isFigures.calls (k : Nat) (a0 : ByteArray) (r : Bool) (w : World) (h : impl_isFigures.f k a0 = some r) :
  Calls Tryz.prog 151 #[.string a0] w fun e w' => e = .returned (.bool r) ∧ Drawn0 w w' := by
 unfold impl_isFigures.f at h
 have H := h
 clear h
 have H' := zA H
 clear H
 go_enter Tryz.func151, Tryz.ntmps151
 go_wp2
 go_loopg [3] k (fun kq v3 w' => ∃ (a1 : Int), v3 = .int .i64 a1 ∧ Aside0 (impl_isFigures.l0 kq a0 a1 = some r) ∧ Aside0 (kq ≤ k) ∧ Drawn0 w w')
 case atStart => exact ⟨(0), zS, H', ⟨Nat.le_refl _⟩, by repeat (first | exact Drawn0.refl _ | apply Drawn0.step)⟩
 case round =>
  clear H'
  try clear c1
  obtain ⟨a1, rfl, HA, a2, ⟨m1, rfl⟩⟩ := hrel
  cases gk with
  | zero => exact absurd HA.out (by simp [impl_isFigures.l0])
  | succ k1 =>
   have H := HA.out
   clear HA
   simp only [impl_isFigures.l0] at H
   replace H := zI0 H
   rcases H with ⟨a4, H⟩ | ⟨a4, H⟩
   ·replace H := zD0 H
    obtain ⟨a6, H⟩ := H
    replace H := Option.bind_eq_some_iff.mp H
    obtain ⟨a7, a3, H⟩ := H
    try dsimp only at H
    have A5 := zA a3
    clear a3
    replace H := zB0 H
    rcases H with ⟨rfl, H⟩ | ⟨rfl, H⟩
    ·have H' := zA H
     clear H
     have p4 : 0 ≤ (a1 : Int) := zD
     have q4 : a1 < (a0.size : Int) := zD
     have a5 := bt_at a0 a1
     replace p4 := eq_true p4
     replace q4 := eq_true q4
     go_wp2_with (first | ((with_reducible refine zq 115 ?_); refine zg (some 13) Tryz.func115 #[.int .u8 (bt a0 a1)] ?_; (with_reducible refine (impl_isFigure.calls (bt a0 a1) true _ A5.out).mono ?_); rintro e w' ⟨rfl, ⟨nd, rfl⟩⟩; refine ⟨_, rfl, ?_⟩))
     go_roundg k1
     case measure => have := a2.out; omega
     case rel => exact ⟨(wrap64 (a1 + 1)), zS, H', ⟨by have := a2.out; omega⟩, by repeat (first | exact Drawn0.refl _ | apply Drawn0.step)⟩
    ·obtain rfl := zm H
     have p4 : 0 ≤ (a1 : Int) := zD
     have q4 : a1 < (a0.size : Int) := zD
     have a5 := bt_at a0 a1
     replace p4 := eq_true p4
     replace q4 := eq_true q4
     go_wp2_with (first | ((with_reducible refine zq 115 ?_); refine zg (some 13) Tryz.func115 #[.int .u8 (bt a0 a1)] ?_; (with_reducible refine (impl_isFigure.calls (bt a0 a1) false _ A5.out).mono ?_); rintro e w' ⟨rfl, ⟨nd, rfl⟩⟩; refine ⟨_, rfl, ?_⟩))
     go_ret
     exact ⟨by first | rfl | (simp; done) | (simp [*]; done) | (simp; rw [Bool.eq_iff_iff]; simp; done), by repeat (first | exact Drawn0.refl _ | apply Drawn0.step)⟩
   ·obtain rfl := zm H
    go_wp2
    go_ret
    exact ⟨by first | rfl | (simp; done) | (simp [*]; done) | (simp; rw [Bool.eq_iff_iff]; simp; done), by repeat (first | exact Drawn0.refl _ | apply Drawn0.step)⟩
end Go.Proofs.YtpcdhoeoefoeoaaGreatDoor.PGD
