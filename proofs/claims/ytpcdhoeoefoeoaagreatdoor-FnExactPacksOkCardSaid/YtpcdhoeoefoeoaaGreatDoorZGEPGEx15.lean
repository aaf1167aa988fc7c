/- The walks of the functions that these laws reach, and what each comes to: printed by this session's program. -/
import Derived.Test.YtpcdhoeoefoeoaaGreatDoorZGEPGEx0
import Derived.Test.YtpcdhoeoefoeoaaGreatDoorZGEPGEx10
import Derived.Test.YtpcdhoeoefoeoaaGreatDoorZGESays
import Derived.Test.YtpcdhoeoefoeoaaGreatDoorZGERegs
namespace Go.Proofs.YtpcdhoeoefoeoaaGreatDoor.PGE
open Go.RowKit YtpcdhoeoefoeoaaGreatDoorW.PrintWords YtpcdhoeoefoeoaaGreatDoorW.PrintLast YtpcdhoeoefoeoaaGreatDoorW.PrintMore
attribute [local go_sem high] Mine.str_gtr Mine.str_leq Mine.str_geq
attribute [local go_sem] max2_int min2_int max_two min_two max_three min_three max_four min_four   -- for this text's walks alone
set_option linter.unusedVariables false
set_option maxHeartbeats 8000000
set_option maxRecDepth 100000
set_option linter.unusedSimpArgs false
/-! ### spec_PacksOk: function 27 -/
mutual
def spec_PacksOk.l0 : Nat → List (S45) → Int → Option (Bool)
 | 0, _, _ => none
 | k + 1, x0, x3 => if x3 < (x0.length : Int) then (spec_PacksOk.j1 k x0 x3) else (some (decide ((x0.length : Int) ≤ 6)))
def spec_PacksOk.j1 : Nat → List (S45) → Int → Option (Bool)
 | 0, _, _ => none
 | k + 1, x0, x3 => if 0 ≤ x3 then (if x3 < (x0.length : Int) then ((spec_PackOk.f k ((rd_T45 x0 x3).f0) ((rd_T45 x0 x3).f1) ((rd_T45 x0 x3).f2) ((rd_T45 x0 x3).f3)).bind fun a0 => (if a0 = true then (if x3 > 0 then (if 0 ≤ (wrap64 (x3 - 1)) then (if (wrap64 (x3 - 1)) < (x0.length : Int) then (spec_PacksOk.j2 k x0 x3 (!(Op.bytesLess (((rd_T45 x0 (wrap64 (x3 - 1))).f0).toList) (((rd_T45 x0 x3).f0).toList)))) else (none)) else (none)) else (spec_PacksOk.j2 k x0 x3 false)) else (spec_PacksOk.j2 k x0 x3 true))) else (none)) else (none)
def spec_PacksOk.j2 : Nat → List (S45) → Int → Bool → Option (Bool)
 | 0, _, _, _ => none
 | k + 1, x0, x3, a1 => if a1 = true then (some false) else (spec_PacksOk.j3 k x0 x3)
def spec_PacksOk.j3 : Nat → List (S45) → Int → Option (Bool)
 | 0, _, _ => none
 | k + 1, x0, x3 => spec_PacksOk.l1 k x0 x3 0
def spec_PacksOk.l1 : Nat → List (S45) → Int → Int → Option (Bool)
 | 0, _, _, _ => none
 | k + 1, x0, x3, x4 => if 0 ≤ x3 then (if x3 < (x0.length : Int) then (if x4 < (((rd_T45 x0 x3).f1).length : Int) then (if 0 ≤ x4 then ((spec_FindPack.f k x0 (rdOf ByteArray.empty ((rd_T45 x0 x3).f1) x4)).bind fun a2 => (if a2 < 0 then (some false) else (if (rdOf ByteArray.empty ((rd_T45 x0 x3).f1) x4).toList = ((rd_T45 x0 x3).f0).toList then (some false) else (spec_PacksOk.l1 k x0 x3 (wrap64 (x4 + 1)))))) else (none)) else (spec_PacksOk.l0 k x0 (wrap64 (x3 + 1)))) else (none)) else (none)
end
def spec_PacksOk.f (k : Nat) (l0 : List (S45)) : Option (Bool) := spec_PacksOk.l0 k l0 0
def spec_PacksOk.T4 : Bool × List (List Nat × List Nat) := (true, [([], []), ([], []), ([0, 1], [0, 1]), ([2], [2]), ([3], [3]), ([4], [4]), ([5, 4], [5]), ([6], [6]), ([7, 6], [6, 7]), ([8, 6, 6], [6, 8]), ([9], [9]), ([9], [9]), ([11, 9], [9, 11]), ([10, 12, 9], [9, 10, 12]), ([13, 9], [9, 13]), ([14, 9], [9, 14]), ([9], [9]), ([9], [9]), ([16, 17, 9], [9, 16, 17]), ([18, 9], [9, 18]), ([19, 9], [9, 19]), ([15, 20, 9], [9, 15, 20]), ([9, 21, 6], [6, 9, 21]), ([6, 22], [6, 22])])
def spec_PacksOk.B4 : List Nat := [0, 0, 3, 7, 15, 31, 63, 127, 255, 511, 1023, 1023, 3071, 8191, 16383, 32767, 1023, 1023, 197631, 459775, 984063, 2097151, 4194303, 8388607]
theorem spec_PacksOk.tab4 : rtab .any (opsOf Tryz.f27 4) = spec_PacksOk.T4 := by kernel_rfl
theorem spec_PacksOk.bits4 : waitsOk spec_PacksOk.T4.2 spec_PacksOk.B4 = true := by kernel_rfl
def spec_PacksOk.T9 : Bool × List (List Nat × List Nat) := (true, [([], []), ([], []), ([], []), ([1, 2], [1, 2]), ([3], [3]), ([4], [4]), ([], []), ([5, 6], [5, 6]), ([7], [7]), ([0, 8], [0, 8]), ([9], [9]), ([10, 9], [10]), ([11], [11]), ([11], [11]), ([12, 13, 11], [11, 12, 13]), ([14, 11], [11, 14]), ([15, 11], [11, 15]), ([11], [11]), ([16, 17, 11], [11, 16, 17]), ([18, 11], [11, 18]), ([11], [11]), ([11], [11]), ([20, 21, 11], [11, 20, 21]), ([22, 11], [11, 22]), ([23, 11], [11, 23]), ([19, 24, 11], [11, 19, 24]), ([11, 25], [11, 25])])
def spec_PacksOk.B9 : List Nat := [0, 0, 0, 6, 14, 30, 0, 126, 254, 511, 1023, 2047, 4095, 4095, 16383, 32767, 65535, 4095, 262143, 524287, 4095, 4095, 3149823, 7344127, 15732735, 33554431, 67108863]
theorem spec_PacksOk.tab9 : rtab .any (opsOf Tryz.f27 9) = spec_PacksOk.T9 := by kernel_rfl
theorem spec_PacksOk.bits9 : waitsOk spec_PacksOk.T9.2 spec_PacksOk.B9 = true := by kernel_rfl
theorem spec_PacksOk.calls (k : Nat) (A0 : Option Addr) (c0 : Nat) (l0 : List (S45)) (r : Bool) (w : World) (r4 : Kd.C k45 w A0 l0.length l0) (r5 : l0.length ≤ c0) (h : spec_PacksOk.f k l0 = some r) :
  Calls Tryz.prog 27 #[.slice A0 l0.length c0] w fun e w' => e = .returned (.bool r) ∧ Below w.heap.size w w' := by
 have D4 := Tryz.underlying45
 have a4 := zA r4
 have n9 := zA r5
 clear r4 r5
 have HB := zA (Below.refl w.heap.size w)
 unfold spec_PacksOk.f at h
 have H := h
 clear h
 have H' := zA H
 clear H
 go_enter Tryz.func27, Tryz.ntmps27
 go_wp2
 go_loopg [3] k (fun kq v3 w' => ∃ (a0 : Int), v3 = .int .i64 a0 ∧ Aside0 (spec_PacksOk.l0 kq l0 a0 = some r) ∧ Aside0 (kq ≤ k) ∧ Aside0 (Below w.heap.size w w'))
 case atStart => exact ⟨(0), zS, H', ⟨Nat.le_refl _⟩, ⟨zB⟩⟩
 case round =>
  clear H'; obtain ⟨a0, rfl, HA, e9, HB⟩ := hrel
  cases gk with
  | zero => exact absurd HA.out (by simp [spec_PacksOk.l0])
  | succ k1 =>
   have H := HA.out; clear HA; simp only [spec_PacksOk.l0] at H; have o0 := zA H; clear H
   go_upto_if 8 with (fail)
   go_cut [] (fun wc => ∃ (kq : Nat), Aside0 (spec_PacksOk.j1 kq l0 a0 = some r) ∧ Aside0 (kq ≤ k1) ∧ Aside0 (Below w.heap.size w wc))
   case first =>
    have H := o0.out; clear o0; replace H := zI0 H
    rcases H with ⟨j5, H⟩ | ⟨j5, H⟩
    ·(first | rw [j5] | (simp only [i64_w, i32_w]; rw [j5]) | skip)
     have H' := zA H; clear H
     go_wp2
     go_meet
     case rel => exact ⟨_, (by first | exact H' | (subst_vars; exact H')), ⟨by have := e9.out; first | omega | exact Nat.le_refl _⟩, ⟨zB⟩⟩
    (first | rw [j5] | (simp only [i64_w, i32_w]; rw [j5]) | skip)
    obtain rfl := zm H
    go_wp2
    go_ret
    exact ⟨zE, zB⟩
   case rest =>
    clear o0
    try clear c2
    try clear p2
    try clear c3
    try clear j5
    obtain ⟨kq, HA, g2, HB⟩ := hcut
    cases kq with
    | zero => exact absurd HA.out (by simp [spec_PacksOk.j1])
    | succ j8 =>
     have H := HA.out; clear HA; simp only [spec_PacksOk.j1] at H; have o1 := zA H; clear H
     go_upto_region 4 with (fail)
     go_cut [34] (fun x7 wc => ∃ (kq : Nat) (o2 : Bool), x7 = .bool o2 ∧ Aside0 (spec_PacksOk.j2 kq l0 a0 o2 = some r) ∧ Aside0 (kq ≤ j8) ∧ Aside0 (Below w.heap.size w wc))
     case first =>
      have H := o1.out; clear o1; replace H := zD0 H; obtain ⟨r6, H⟩ := H
      (first | rw [r6] | (simp only [i64_w, i32_w]; rw [r6]) | skip)
      replace H := zD0 H; obtain ⟨D5, H⟩ := H; replace H := Option.bind_eq_some_iff.mp H; obtain ⟨D6, r7, H⟩ := H
      try dsimp only at H
      have A7 := zA r7; clear r7; replace H := zB0 H
      rcases H with ⟨rfl, H⟩ | ⟨rfl, H⟩
      ·replace H := zI1 H
       rcases H with ⟨c9, H⟩ | ⟨c9, H⟩
       ·have m8 : decide (0 < a0) = true := decide_eq_true c9; clear c9; obtain ⟨a5, j9⟩ : ∃ j_ : Int, (wrap64 (a0 - 1)) = j_ := ⟨_, rfl⟩
        replace H : (if 0 ≤ (a5) then (if (a5) < (l0.length : Int) then (spec_PacksOk.j2 j8 l0 a0 (!(Op.bytesLess (((rd_T45 l0 (a5)).f0).toList) (((rd_T45 l0 a0).f0).toList)))) else (none)) else (none)) = some r := by first | (rw [j9] at H; exact H) | (simp only [j9] at H ⊢; exact H)
        (try rw [j9] at A7)
        have hji10w : (IntKind.i64.wrap (a0 - 1)) = a5 := (i64_w _).trans j9; replace H := zD0 H; obtain ⟨D7, H⟩ := H; replace H := zD0 H; obtain ⟨D8, H⟩ := H; have H' := zA H; clear H
        try go_wp2
        replace HB := zA (below_drew1 HB.out); have b5 : 0 ≤ (a0 : Int) := zD; have b6 : a0 < (l0.length : Int) := zD; obtain ⟨a2, g3, g4, g5, g6, g7, g8, k0, a9, b0, b1, b2, g9, h0, h1, h2, h3, h4⟩ := at_T45 a4.out a0 b5 b6; have r8 := b2; have r9 := b1; have t0 := b0; have t1 := a9; cases k0; replace a9 := zx HB a9; replace b0 := zx HB b0; replace b1 := zx HB b1; replace b2 := zx HB b2; have h5 := zA h0; have k2 := zA g9; clear h0 g9; have h6 := zA h2; have k3 := zA h1; clear h2 h1; have h7 := zA h4; have k4 := zA h3; clear h4 h3; replace b5 := eq_true b5; replace b6 := eq_true b6; have o3 : 0 ≤ ((a5) : Int) := zD; have o4 : (a5) < (l0.length : Int) := zD; obtain ⟨x8, x9, y0, y1, y2, y3, y4, y5, m9, n0, n1, n2, t2, t3, t4, t5, t6, t7⟩ := at_T45 a4.out (a5) o3 o4; have D9 := n2; have E0 := n1; have E1 := n0; have E2 := m9; obtain rfl : a2 = x8 := (by injection y5); replace m9 := zx HB m9; replace n0 := zx HB n0; replace n1 := zx HB n1; replace n2 := zx HB n2; have y6 := zA t3; have E3 := zA t2; clear t3 t2; have y7 := zA t5; have E4 := zA t4; clear t5 t4; have y8 := zA t7; have E5 := zA t6; clear t7 t6; replace o3 := eq_true o3; replace o4 := eq_true o4; have o5 : 0 ≤ (a0 : Int) := zD; have o6 : a0 < (l0.length : Int) := zD; obtain ⟨y9, z0, z1, z2, z3, z4, z5, z6, n3, n4, n5, n6, t8, t9, v0, v1, v2, v5⟩ := at_T45 a4.out a0 o5 o6; have E6 := n6; have E7 := n5; have E8 := n4; have E9 := n3; obtain rfl : a2 = y9 := (by injection z6); replace n3 := zx HB n3; replace n4 := zx HB n4; replace n5 := zx HB n5; replace n6 := zx HB n6; have z7 := zA t9; have F0 := zA t8; clear t9 t8; have z8 := zA v1; have F1 := zA v0; clear v1 v0; have z9 := zA v5; have F2 := zA v2; clear v5 v2; replace o5 := eq_true o5; replace o6 := eq_true o6
        refine start_ (n := 24) (S := fun w' => w'.cell? (a2.add ((a0).toNat * 4)) = some (.string ((rd_T45 l0 a0).f0)) ∧ w'.cell? ⟨(a2.add ((a0).toNat * 4)).block, (a2.add ((a0).toNat * 4)).off + 1, none⟩ = some (.slice g3 ((rd_T45 l0 a0).f1).length g4) ∧ w'.cell? ⟨(a2.add ((a0).toNat * 4)).block, (a2.add ((a0).toNat * 4)).off + 2, none⟩ = some (.slice g5 ((rd_T45 l0 a0).f2).length g6) ∧ w'.cell? ⟨(a2.add ((a0).toNat * 4)).block, (a2.add ((a0).toNat * 4)).off + 3, none⟩ = some (.slice g7 ((rd_T45 l0 a0).f3).length g8) ∧ w'.cell? (a2.add (((a5)).toNat * 4)) = some (.string ((rd_T45 l0 (a5)).f0)) ∧ w'.cell? ⟨(a2.add (((a5)).toNat * 4)).block, (a2.add (((a5)).toNat * 4)).off + 1, none⟩ = some (.slice x9 ((rd_T45 l0 (a5)).f1).length y0) ∧ w'.cell? ⟨(a2.add (((a5)).toNat * 4)).block, (a2.add (((a5)).toNat * 4)).off + 2, none⟩ = some (.slice y1 ((rd_T45 l0 (a5)).f2).length y2) ∧ w'.cell? ⟨(a2.add (((a5)).toNat * 4)).block, (a2.add (((a5)).toNat * 4)).off + 3, none⟩ = some (.slice y3 ((rd_T45 l0 (a5)).f3).length y4) ∧ w'.cell? (a2.add ((a0).toNat * 4)) = some (.string ((rd_T45 l0 a0).f0)) ∧ w'.cell? ⟨(a2.add ((a0).toNat * 4)).block, (a2.add ((a0).toNat * 4)).off + 1, none⟩ = some (.slice z0 ((rd_T45 l0 a0).f1).length z1) ∧ w'.cell? ⟨(a2.add ((a0).toNat * 4)).block, (a2.add ((a0).toNat * 4)).off + 2, none⟩ = some (.slice z2 ((rd_T45 l0 a0).f2).length z3) ∧ w'.cell? ⟨(a2.add ((a0).toNat * 4)).block, (a2.add ((a0).toNat * 4)).off + 3, none⟩ = some (.slice z4 ((rd_T45 l0 a0).f3).length z5)) (ds := []) (Array.replicate 24 false) (by kernel_rfl) rfl rfl zO fun hHeld => ?_; refine with_tabW spec_PacksOk.tab4 spec_PacksOk.bits4 (fun HT_ HW_ => ?_)
        generalize wc.drew = F3 at HB h5 h6 h7 y6 y7 y8 z7 z8 z9 a9 b0 b1 b2 m9 n0 n1 n2 n3 n4 n5 n6 hHeld ⊢; refine zp 0 11 ?_; refine zp 1 12 ?_; refine zp 2 13 ?_; refine zt 3 14 ?_
        refine zo 4 (some 15) fun K hK => ?_
        refine goes_ Tryz.func17 (by kernel_rfl) rfl #[.agg #[.string ((rd_T45 l0 a0).f0), .slice g3 ((rd_T45 l0 a0).f1).length g4, .slice g5 ((rd_T45 l0 a0).f2).length g6, .slice g7 ((rd_T45 l0 a0).f3).length g8]] (by rfl) rfl rfl zM ?_
        with_reducible refine (spec_PackOk.calls j8 ((rd_T45 l0 a0).f0) _ _ ((rd_T45 l0 a0).f1) _ _ ((rd_T45 l0 a0).f2) _ _ ((rd_T45 l0 a0).f3) true _ ?s1 ?s2 ?s3 ?s4 ?s5 ?s6 A7.out).mono ?_
        (case s1 => exact zC (Kd.C_below h5.out HB.out))
        (case s2 => exact k2.out)
        (case s3 => exact zC (Kd.C_below h6.out HB.out))
        (case s4 => exact k3.out)
        (case s5 => exact zC (Kd.C_below h7.out HB.out))
        (case s6 => exact k4.out)
        rintro e F4 ⟨rfl, hb⟩
        refine ⟨_, rfl, ?_⟩
        replace HB := zA (below_step (zB) hb)
        (try clear hb)
        refine hK.out _ _ zO fun hHeld => ?_
        clear hK K; refine zn ?_; refine zp 5 16 ?_; refine zp 6 17 ?_; refine zp 7 18 ?_; refine zp 8 19 ?_; refine zp 9 20 ?_; refine zp 10 21 ?_; refine zp 11 22 ?_; refine zp 12 23 ?_; refine zp 13 24 ?_; refine zp 14 25 ?_; refine zp 16 27 ?_; refine zp 17 28 ?_; refine zp 18 29 ?_; refine zp 19 30 ?_; refine zt 15 26 ?_; refine zt 20 31 ?_; refine zp 21 32 ?_; refine zp 22 33 ?_; refine zp 23 34 ?_
        refine done_ (done_of HT_.out (by kernel_rfl)) ?_
        try go_wp2
        go_meet
        case rel => exact ⟨_, (!(Op.bytesLess (((rd_T45 l0 (a5)).f0).toList) (((rd_T45 l0 a0).f0).toList))), (by first | rfl | (simp; done) | (simp only [← j9] <;> (first | rfl | simp)) | (simp [*]; done)), (by first | exact H' | (subst_vars; exact H')), ⟨by have := e9.out; have := g2.out; first | omega | exact Nat.le_refl _⟩, ⟨zB⟩⟩
       have m8 : decide (0 < a0) = false := decide_eq_false c9; clear c9; have H' := zA H; clear H
       try go_wp2
       replace HB := zA (below_drew1 HB.out); have b5 : 0 ≤ (a0 : Int) := zD; have b6 : a0 < (l0.length : Int) := zD; obtain ⟨a2, g3, g4, g5, g6, g7, g8, k0, a9, b0, b1, b2, g9, h0, h1, h2, h3, h4⟩ := at_T45 a4.out a0 b5 b6; have r8 := b2; have r9 := b1; have t0 := b0; have t1 := a9; cases k0; replace a9 := zx HB a9; replace b0 := zx HB b0; replace b1 := zx HB b1; replace b2 := zx HB b2; have h5 := zA h0; have k2 := zA g9; clear h0 g9; have h6 := zA h2; have k3 := zA h1; clear h2 h1; have h7 := zA h4; have k4 := zA h3; clear h4 h3; replace b5 := eq_true b5; replace b6 := eq_true b6
       refine start_ (n := 24) (S := fun w' => w'.cell? (a2.add ((a0).toNat * 4)) = some (.string ((rd_T45 l0 a0).f0)) ∧ w'.cell? ⟨(a2.add ((a0).toNat * 4)).block, (a2.add ((a0).toNat * 4)).off + 1, none⟩ = some (.slice g3 ((rd_T45 l0 a0).f1).length g4) ∧ w'.cell? ⟨(a2.add ((a0).toNat * 4)).block, (a2.add ((a0).toNat * 4)).off + 2, none⟩ = some (.slice g5 ((rd_T45 l0 a0).f2).length g6) ∧ w'.cell? ⟨(a2.add ((a0).toNat * 4)).block, (a2.add ((a0).toNat * 4)).off + 3, none⟩ = some (.slice g7 ((rd_T45 l0 a0).f3).length g8)) (ds := []) (Array.replicate 24 false) (by kernel_rfl) rfl rfl zO fun hHeld => ?_; refine with_tabW spec_PacksOk.tab4 spec_PacksOk.bits4 (fun HT_ HW_ => ?_)
       generalize wc.drew = F5 at HB h5 h6 h7 a9 b0 b1 b2 hHeld ⊢; refine zp 0 11 ?_; refine zp 1 12 ?_; refine zp 2 13 ?_; refine zt 3 14 ?_
       refine zo 4 (some 15) fun K hK => ?_
       refine goes_ Tryz.func17 (by kernel_rfl) rfl #[.agg #[.string ((rd_T45 l0 a0).f0), .slice g3 ((rd_T45 l0 a0).f1).length g4, .slice g5 ((rd_T45 l0 a0).f2).length g6, .slice g7 ((rd_T45 l0 a0).f3).length g8]] (by rfl) rfl rfl zM ?_
       with_reducible refine (spec_PackOk.calls j8 ((rd_T45 l0 a0).f0) _ _ ((rd_T45 l0 a0).f1) _ _ ((rd_T45 l0 a0).f2) _ _ ((rd_T45 l0 a0).f3) true _ ?s1 ?s2 ?s3 ?s4 ?s5 ?s6 A7.out).mono ?_
       (case s1 => exact zC (Kd.C_below h5.out HB.out))
       (case s2 => exact k2.out)
       (case s3 => exact zC (Kd.C_below h6.out HB.out))
       (case s4 => exact k3.out)
       (case s5 => exact zC (Kd.C_below h7.out HB.out))
       (case s6 => exact k4.out)
       rintro e F6 ⟨rfl, hb⟩
       refine ⟨_, rfl, ?_⟩
       replace HB := zA (below_step (zB) hb)
       (try clear hb)
       refine hK.out _ _ zO fun hHeld => ?_
       clear hK K; refine zn ?_; refine zp 5 16 ?_; refine zp 6 17 ?_; refine zp 7 18 ?_; refine zp 8 19 ?_; refine zp 9 20 ?_; refine zu 10 21 ?_; refine zu 11 22 ?_; refine zu 12 23 ?_; refine zu 13 24 ?_; refine zu 14 25 ?_; refine zu 15 26 ?_; refine zu 16 27 ?_; refine zu 17 28 ?_; refine zu 18 29 ?_; refine zu 19 30 ?_; refine zu 20 31 ?_; refine zu 21 32 ?_; refine zp 22 33 ?_; refine zp 23 34 ?_
       refine done_ (done_of HT_.out (by kernel_rfl)) ?_
       try go_wp2
       go_meet
       case rel => exact ⟨_, (false), zS, (by first | exact H' | (subst_vars; exact H')), ⟨by have := e9.out; have := g2.out; first | omega | exact Nat.le_refl _⟩, ⟨zB⟩⟩
      have H' := zA H; clear H
      try go_wp2
      replace HB := zA (below_drew1 HB.out); have b5 : 0 ≤ (a0 : Int) := zD; have b6 : a0 < (l0.length : Int) := zD; obtain ⟨a2, g3, g4, g5, g6, g7, g8, k0, a9, b0, b1, b2, g9, h0, h1, h2, h3, h4⟩ := at_T45 a4.out a0 b5 b6; have r8 := b2; have r9 := b1; have t0 := b0; have t1 := a9; cases k0; replace a9 := zx HB a9; replace b0 := zx HB b0; replace b1 := zx HB b1; replace b2 := zx HB b2; have h5 := zA h0; have k2 := zA g9; clear h0 g9; have h6 := zA h2; have k3 := zA h1; clear h2 h1; have h7 := zA h4; have k4 := zA h3; clear h4 h3; replace b5 := eq_true b5; replace b6 := eq_true b6
      refine start_ (n := 24) (S := fun w' => w'.cell? (a2.add ((a0).toNat * 4)) = some (.string ((rd_T45 l0 a0).f0)) ∧ w'.cell? ⟨(a2.add ((a0).toNat * 4)).block, (a2.add ((a0).toNat * 4)).off + 1, none⟩ = some (.slice g3 ((rd_T45 l0 a0).f1).length g4) ∧ w'.cell? ⟨(a2.add ((a0).toNat * 4)).block, (a2.add ((a0).toNat * 4)).off + 2, none⟩ = some (.slice g5 ((rd_T45 l0 a0).f2).length g6) ∧ w'.cell? ⟨(a2.add ((a0).toNat * 4)).block, (a2.add ((a0).toNat * 4)).off + 3, none⟩ = some (.slice g7 ((rd_T45 l0 a0).f3).length g8)) (ds := []) (Array.replicate 24 false) (by kernel_rfl) rfl rfl zO fun hHeld => ?_; refine with_tabW spec_PacksOk.tab4 spec_PacksOk.bits4 (fun HT_ HW_ => ?_)
      generalize wc.drew = F7 at HB h5 h6 h7 a9 b0 b1 b2 hHeld ⊢; refine zp 0 11 ?_; refine zp 1 12 ?_; refine zp 2 13 ?_; refine zt 3 14 ?_
      refine zo 4 (some 15) fun K hK => ?_
      refine goes_ Tryz.func17 (by kernel_rfl) rfl #[.agg #[.string ((rd_T45 l0 a0).f0), .slice g3 ((rd_T45 l0 a0).f1).length g4, .slice g5 ((rd_T45 l0 a0).f2).length g6, .slice g7 ((rd_T45 l0 a0).f3).length g8]] (by rfl) rfl rfl zM ?_
      with_reducible refine (spec_PackOk.calls j8 ((rd_T45 l0 a0).f0) _ _ ((rd_T45 l0 a0).f1) _ _ ((rd_T45 l0 a0).f2) _ _ ((rd_T45 l0 a0).f3) false _ ?s1 ?s2 ?s3 ?s4 ?s5 ?s6 A7.out).mono ?_
      (case s1 => exact zC (Kd.C_below h5.out HB.out))
      (case s2 => exact k2.out)
      (case s3 => exact zC (Kd.C_below h6.out HB.out))
      (case s4 => exact k3.out)
      (case s5 => exact zC (Kd.C_below h7.out HB.out))
      (case s6 => exact k4.out)
      rintro e F8 ⟨rfl, hb⟩
      refine ⟨_, rfl, ?_⟩
      replace HB := zA (below_step (zB) hb)
      (try clear hb)
      refine hK.out _ _ zO fun hHeld => ?_
      clear hK K; refine zn ?_; refine zp 5 16 ?_; refine zp 6 17 ?_; refine zu 7 18 ?_; refine zu 8 19 ?_; refine zu 9 20 ?_; refine zu 10 21 ?_; refine zu 11 22 ?_; refine zu 12 23 ?_; refine zu 13 24 ?_; refine zu 14 25 ?_; refine zu 15 26 ?_; refine zu 16 27 ?_; refine zu 17 28 ?_; refine zu 18 29 ?_; refine zu 19 30 ?_; refine zu 20 31 ?_; refine zu 21 32 ?_; refine zu 22 33 ?_; refine zp 23 34 ?_
      refine done_ (done_of HT_.out (by kernel_rfl)) ?_
      try go_wp2
      go_meet
      case rel => exact ⟨_, (true), zS, (by first | exact H' | (subst_vars; exact H')), ⟨by have := e9.out; have := g2.out; first | omega | exact Nat.le_refl _⟩, ⟨zB⟩⟩
     case rest =>
      clear o1
      try clear c1
      try clear p2
      try clear c4
      try clear p4
      try clear q4
      try clear hx4
      try clear c5
      try clear c6
      try clear c8
      try clear c9
      try clear m8
      try clear c11
      try clear c12
      try clear c17
      try clear a9
      try clear b0
      try clear b1
      try clear b2
      try clear b5
      try clear b6
      obtain ⟨kq, o2, rfl, HA, k6, HB⟩ := hcut
      cases kq with
      | zero => exact absurd HA.out (by simp [spec_PacksOk.j2])
      | succ A1 =>
       have H := HA.out; clear HA; simp only [spec_PacksOk.j2] at H; have o7 := zA H; clear H
       go_upto_if 34 with (fail)
       go_cut [] (fun wc => ∃ (kq : Nat), Aside0 (spec_PacksOk.j3 kq l0 a0 = some r) ∧ Aside0 (kq ≤ A1) ∧ Aside0 (Below w.heap.size w wc))
       case first =>
        have H := o7.out; clear o7; replace H := zB0 H
        rcases H with ⟨rfl, H⟩ | ⟨rfl, H⟩
        ·obtain rfl := zm H
         go_wp2
         go_ret
         exact ⟨zE, zB⟩
        have H' := zA H; clear H
        go_wp2
        go_meet
        case rel => exact ⟨_, (by first | exact H' | (subst_vars; exact H')), ⟨by have := e9.out; have := g2.out; have := k6.out; first | omega | exact Nat.le_refl _⟩, ⟨zB⟩⟩
       case rest =>
        clear o7
        try clear c1
        try clear c2
        try clear p2
        try clear c4
        try clear p4
        try clear q4
        try clear hx4
        try clear c5
        try clear c6
        try clear c8
        try clear c9
        try clear m8
        try clear c11
        try clear c12
        try clear c17
        try clear c20
        try clear a9
        try clear b0
        try clear b1
        try clear b2
        try clear p2
        try clear p4
        try clear b5
        try clear q4
        try clear b6
        obtain ⟨kq, HA, n7, HB⟩ := hcut
        cases kq with
        | zero => exact absurd HA.out (by simp [spec_PacksOk.j3])
        | succ v6 =>
         have H := HA.out; clear HA; simp only [spec_PacksOk.j3] at H; have H' := zA H; clear H
         go_wp2
         go_loopg [4] v6 (fun kq v4 w' => ∃ (a3 : Int), v4 = .int .i64 a3 ∧ Aside0 (spec_PacksOk.l1 kq l0 a0 a3 = some r) ∧ Aside0 (kq ≤ v6) ∧ Aside0 (Below w.heap.size w w'))
         case atStart => exact ⟨(0), zS, H', ⟨Nat.le_refl _⟩, ⟨zB⟩⟩
         case round =>
          clear H'
          try clear c1
          try clear c2
          try clear p2
          try clear c4
          try clear p4
          try clear q4
          try clear hx4
          try clear c5
          try clear c6
          try clear c8
          try clear c9
          try clear m8
          try clear c11
          try clear c12
          try clear c17
          try clear c20
          try clear a9
          try clear b0
          try clear b1
          try clear b2
          try clear p2
          try clear p4
          try clear b5
          try clear q4
          try clear b6
          obtain ⟨a3, rfl, HA, n8, HB⟩ := hrel
          cases gk with
          | zero => exact absurd HA.out (by simp [spec_PacksOk.l1])
          | succ k5 =>
           have H := HA.out; clear HA; simp only [spec_PacksOk.l1] at H; replace H := zD0 H; obtain ⟨F9, H⟩ := H; replace H := zD0 H; obtain ⟨G0, H⟩ := H; replace H := zI0 H
           rcases H with ⟨A2, H⟩ | ⟨A2, H⟩
           ·replace H := zD0 H; obtain ⟨G1, H⟩ := H; replace H := Option.bind_eq_some_iff.mp H; obtain ⟨o8, v7, H⟩ := H
            try dsimp only at H
            have o9 := zA v7; clear v7; replace H := zI0 H
            rcases H with ⟨A3, H⟩ | ⟨A3, H⟩
            ·obtain rfl := zm H; have b3 : 0 ≤ (a0 : Int) := zD; have b4 : a0 < (l0.length : Int) := zD; obtain ⟨a1, p0, p1, p3, p5, p6, p7, i5, c7, d0, d1, d2, d3, d4, d5, d6, d7, d8⟩ := at_T45 a4.out a0 b3 b4; cases i5; replace c7 := zx HB c7; replace d0 := zx HB d0; replace d1 := zx HB d1; replace d2 := zx HB d2; have p8 := zA d4; have p9 := zA d3; clear d4 d3; have q0 := zA d6; have q1 := zA d5; clear d6 d5; have q2 := zA d8; have q3 := zA d7; clear d8 d7; replace b3 := eq_true b3; replace b4 := eq_true b4
             try go_wp2
             replace HB := zA (below_drew1 HB.out); have d9 : 0 ≤ (a0 : Int) := zD; have e0 : a0 < (l0.length : Int) := zD; obtain ⟨k7, v8, f4, f5, f6, f7, f8, k8, b7, a6, a7, a8, h8, h9, i0, i1, i2, i3⟩ := at_T45 a4.out a0 d9 e0; have v9 := a8; have x0 := a7; have x1 := a6; have x2 := b7; obtain rfl : a1 = k7 := (by injection k8); replace b7 := zx HB b7; replace a6 := zx HB a6; replace a7 := zx HB a7; replace a8 := zx HB a8; have i4 := zA h9; have x3 := zA h8; clear h9 h8; have k9 := zA i1; have x4 := zA i0; clear i1 i0; have l2 := zA i3; have x5 := zA i2; clear i3 i2; replace d9 := eq_true d9; replace e0 := eq_true e0; have e1 : 0 ≤ (a3 : Int) := zD; have e2 : a3 < (((rd_T45 l0 a0).f1).length : Int) := zD; obtain ⟨j6, l3, b8⟩ := Kd.at_string i4.out a3 e1 e2; have x6 := b8; cases l3; replace b8 := zx HB b8; replace e1 := eq_true e1; replace e2 := eq_true e2
             refine start_ (n := 27) (S := fun w' => w'.cell? (a1.add ((a0).toNat * 4)) = some (.string ((rd_T45 l0 a0).f0)) ∧ w'.cell? ⟨(a1.add ((a0).toNat * 4)).block, (a1.add ((a0).toNat * 4)).off + 1, none⟩ = some (.slice (some j6) ((rd_T45 l0 a0).f1).length f4) ∧ w'.cell? ⟨(a1.add ((a0).toNat * 4)).block, (a1.add ((a0).toNat * 4)).off + 2, none⟩ = some (.slice f5 ((rd_T45 l0 a0).f2).length f6) ∧ w'.cell? ⟨(a1.add ((a0).toNat * 4)).block, (a1.add ((a0).toNat * 4)).off + 3, none⟩ = some (.slice f7 ((rd_T45 l0 a0).f3).length f8) ∧ w'.cell? (j6.add (a3).toNat) = some (.string (rdOf ByteArray.empty ((rd_T45 l0 a0).f1) a3))) (ds := []) (Array.replicate 27 false) (by kernel_rfl) rfl rfl zO fun hHeld => ?_; refine with_tabW spec_PacksOk.tab9 spec_PacksOk.bits9 (fun HT_ HW_ => ?_)
             generalize wr.drew = G2 at HB i4 k9 l2 b7 a6 a7 a8 b8 hHeld ⊢; refine zp 0 45 ?_; refine zp 1 46 ?_; refine zp 2 47 ?_; refine zp 3 48 ?_; refine zp 4 49 ?_; refine zp 6 51 ?_; refine zt 5 50 ?_; refine zp 7 52 ?_; refine zt 8 53 ?_
             refine zo 9 (some 54) fun K hK => ?_
             refine goes_ Tryz.func74 (by kernel_rfl) rfl #[.slice (some a1) l0.length c0, .string (rdOf ByteArray.empty ((rd_T45 l0 a0).f1) a3)] (by rfl) rfl rfl zM ?_
             with_reducible refine (spec_FindPack.calls k5 _ _ l0 (rdOf ByteArray.empty ((rd_T45 l0 a0).f1) a3) o8 _ ?s1 ?s2 o9.out).mono ?_
             (case s1 => exact zC (Kd.C_below a4.out HB.out))
             (case s2 => exact n9.out)
             rintro e w' ⟨rfl, ⟨nd, rfl⟩⟩
             refine ⟨_, rfl, ?_⟩
             refine hK.out _ _ zO fun hHeld => ?_
             clear hK K; refine zn ?_; refine zp 10 55 ?_; refine zp 11 56 ?_; refine zu 12 57 ?_; refine zu 13 58 ?_; refine zu 14 59 ?_; refine zu 15 60 ?_; refine zu 16 61 ?_; refine zu 17 62 ?_; refine zu 18 63 ?_; refine zu 19 64 ?_; refine zu 20 65 ?_; refine zu 21 66 ?_; refine zu 22 67 ?_; refine zu 23 68 ?_; refine zu 24 69 ?_; refine zu 25 70 ?_; refine zp 26 71 ?_
             refine done_ (done_of HT_.out (by kernel_rfl)) ?_
             try go_wp2
             go_ret
             exact ⟨zE, zB⟩
            replace H := zI1 H
            rcases H with ⟨j7, H⟩ | ⟨j7, H⟩
            ·have A4 := beq_iff_eq.mpr j7; have A5 := bne_eq_false_iff_eq.mpr j7; clear j7; obtain rfl := zm H; have b3 : 0 ≤ (a0 : Int) := zD; have b4 : a0 < (l0.length : Int) := zD; obtain ⟨a1, p0, p1, p3, p5, p6, p7, i5, c7, d0, d1, d2, d3, d4, d5, d6, d7, d8⟩ := at_T45 a4.out a0 b3 b4; cases i5; replace c7 := zx HB c7; replace d0 := zx HB d0; replace d1 := zx HB d1; replace d2 := zx HB d2; have p8 := zA d4; have p9 := zA d3; clear d4 d3; have q0 := zA d6; have q1 := zA d5; clear d6 d5; have q2 := zA d8; have q3 := zA d7; clear d8 d7; replace b3 := eq_true b3; replace b4 := eq_true b4
             try go_wp2
             replace HB := zA (below_drew1 HB.out); have d9 : 0 ≤ (a0 : Int) := zD; have e0 : a0 < (l0.length : Int) := zD; obtain ⟨k7, v8, f4, f5, f6, f7, f8, k8, b7, a6, a7, a8, h8, h9, i0, i1, i2, i3⟩ := at_T45 a4.out a0 d9 e0; have v9 := a8; have x0 := a7; have x1 := a6; have x2 := b7; obtain rfl : a1 = k7 := (by injection k8); replace b7 := zx HB b7; replace a6 := zx HB a6; replace a7 := zx HB a7; replace a8 := zx HB a8; have i4 := zA h9; have x3 := zA h8; clear h9 h8; have k9 := zA i1; have x4 := zA i0; clear i1 i0; have l2 := zA i3; have x5 := zA i2; clear i3 i2; replace d9 := eq_true d9; replace e0 := eq_true e0; have e1 : 0 ≤ (a3 : Int) := zD; have e2 : a3 < (((rd_T45 l0 a0).f1).length : Int) := zD; obtain ⟨j6, l3, b8⟩ := Kd.at_string i4.out a3 e1 e2; have x6 := b8; cases l3; replace b8 := zx HB b8; replace e1 := eq_true e1; replace e2 := eq_true e2; have i6 : 0 ≤ (a0 : Int) := zD; have i7 : a0 < (l0.length : Int) := zD; obtain ⟨q5, A6, A8, A9, B0, B1, B2, q6, f9, e3, e4, e5, l4, l5, l6, l7, l8, l9⟩ := at_T45 a4.out a0 i6 i7; have B3 := e5; have B4 := e4; have B5 := e3; have B6 := f9; obtain rfl : a1 = q5 := (by injection q6); replace f9 := zx HB f9; replace e3 := zx HB e3; replace e4 := zx HB e4; replace e5 := zx HB e5; have m0 := zA l5; have B7 := zA l4; clear l5 l4; have q7 := zA l7; have B8 := zA l6; clear l7 l6; have q8 := zA l9; have B9 := zA l8; clear l9 l8; replace i6 := eq_true i6; replace i7 := eq_true i7; have ea_ := Option.some.inj (a6.symm.trans e3); injection ea_ with ea_ en_ ec_; subst ea_; subst ec_; clear en_; have ea_ := Option.some.inj (a7.symm.trans e4); injection ea_ with ea_ en_ ec_; subst ea_; subst ec_; clear en_; have ea_ := Option.some.inj (a8.symm.trans e5); injection ea_ with ea_ en_ ec_; subst ea_; subst ec_; clear en_; have i8 : 0 ≤ (a3 : Int) := zD; have i9 : a3 < (((rd_T45 l0 a0).f1).length : Int) := zD; obtain ⟨b9, m1, g0⟩ := Kd.at_string m0.out a3 i8 i9; have C0 := g0
             (first | (obtain rfl : b9 = j6 := (by injection m1.symm)) | cases m1)
             replace g0 := zx HB g0; replace i8 := eq_true i8; replace i9 := eq_true i9; have j0 : 0 ≤ (a0 : Int) := zD; have j4 : a0 < (l0.length : Int) := zD; obtain ⟨q9, C1, C2, C3, C4, C5, C6, r0, g1, e6, e7, e8, m2, m3, m4, m5, m6, m7⟩ := at_T45 a4.out a0 j0 j4; have C7 := e8; have C8 := e7; have C9 := e6; have D0 := g1; obtain rfl : a1 = q9 := (by injection r0); replace g1 := zx HB g1; replace e6 := zx HB e6; replace e7 := zx HB e7; replace e8 := zx HB e8; have r1 := zA m3; have D1 := zA m2; clear m3 m2; have r2 := zA m5; have D2 := zA m4; clear m5 m4; have r3 := zA m7; have D3 := zA m6; clear m7 m6; replace j0 := eq_true j0; replace j4 := eq_true j4; have ea_ := Option.some.inj (a6.symm.trans e6); injection ea_ with ea_ en_ ec_; subst ea_; subst ec_; clear en_; have ea_ := Option.some.inj (a7.symm.trans e7); injection ea_ with ea_ en_ ec_; subst ea_; subst ec_; clear en_; have ea_ := Option.some.inj (a8.symm.trans e8); injection ea_ with ea_ en_ ec_; subst ea_; subst ec_; clear en_
             refine start_ (n := 27) (S := fun w' => w'.cell? (a1.add ((a0).toNat * 4)) = some (.string ((rd_T45 l0 a0).f0)) ∧ w'.cell? ⟨(a1.add ((a0).toNat * 4)).block, (a1.add ((a0).toNat * 4)).off + 1, none⟩ = some (.slice (some b9) ((rd_T45 l0 a0).f1).length f4) ∧ w'.cell? ⟨(a1.add ((a0).toNat * 4)).block, (a1.add ((a0).toNat * 4)).off + 2, none⟩ = some (.slice f5 ((rd_T45 l0 a0).f2).length f6) ∧ w'.cell? ⟨(a1.add ((a0).toNat * 4)).block, (a1.add ((a0).toNat * 4)).off + 3, none⟩ = some (.slice f7 ((rd_T45 l0 a0).f3).length f8) ∧ w'.cell? (b9.add (a3).toNat) = some (.string (rdOf ByteArray.empty ((rd_T45 l0 a0).f1) a3)) ∧ w'.cell? (a1.add ((a0).toNat * 4)) = some (.string ((rd_T45 l0 a0).f0)) ∧ w'.cell? ⟨(a1.add ((a0).toNat * 4)).block, (a1.add ((a0).toNat * 4)).off + 1, none⟩ = some (.slice (some b9) ((rd_T45 l0 a0).f1).length f4) ∧ w'.cell? ⟨(a1.add ((a0).toNat * 4)).block, (a1.add ((a0).toNat * 4)).off + 2, none⟩ = some (.slice f5 ((rd_T45 l0 a0).f2).length f6) ∧ w'.cell? ⟨(a1.add ((a0).toNat * 4)).block, (a1.add ((a0).toNat * 4)).off + 3, none⟩ = some (.slice f7 ((rd_T45 l0 a0).f3).length f8) ∧ w'.cell? (b9.add (a3).toNat) = some (.string (rdOf ByteArray.empty ((rd_T45 l0 a0).f1) a3)) ∧ w'.cell? (a1.add ((a0).toNat * 4)) = some (.string ((rd_T45 l0 a0).f0)) ∧ w'.cell? ⟨(a1.add ((a0).toNat * 4)).block, (a1.add ((a0).toNat * 4)).off + 1, none⟩ = some (.slice (some b9) ((rd_T45 l0 a0).f1).length f4) ∧ w'.cell? ⟨(a1.add ((a0).toNat * 4)).block, (a1.add ((a0).toNat * 4)).off + 2, none⟩ = some (.slice f5 ((rd_T45 l0 a0).f2).length f6) ∧ w'.cell? ⟨(a1.add ((a0).toNat * 4)).block, (a1.add ((a0).toNat * 4)).off + 3, none⟩ = some (.slice f7 ((rd_T45 l0 a0).f3).length f8)) (ds := []) (Array.replicate 27 false) (by kernel_rfl) rfl rfl zO fun hHeld => ?_; refine with_tabW spec_PacksOk.tab9 spec_PacksOk.bits9 (fun HT_ HW_ => ?_)
             generalize wr.drew = G3 at HB i4 k9 l2 m0 q7 q8 r1 r2 r3 b7 a6 a7 a8 b8 f9 e3 e4 e5 g0 g1 e6 e7 e8 hHeld ⊢; refine zp 0 45 ?_; refine zp 1 46 ?_; refine zp 2 47 ?_; refine zp 3 48 ?_; refine zp 4 49 ?_; refine zp 6 51 ?_; refine zt 5 50 ?_; refine zp 7 52 ?_; refine zt 8 53 ?_
             refine zo 9 (some 54) fun K hK => ?_
             refine goes_ Tryz.func74 (by kernel_rfl) rfl #[.slice (some a1) l0.length c0, .string (rdOf ByteArray.empty ((rd_T45 l0 a0).f1) a3)] (by rfl) rfl rfl zM ?_
             with_reducible refine (spec_FindPack.calls k5 _ _ l0 (rdOf ByteArray.empty ((rd_T45 l0 a0).f1) a3) o8 _ ?s1 ?s2 o9.out).mono ?_
             (case s1 => exact zC (Kd.C_below a4.out HB.out))
             (case s2 => exact n9.out)
             rintro e w' ⟨rfl, ⟨nd, rfl⟩⟩
             refine ⟨_, rfl, ?_⟩
             refine hK.out _ _ zO fun hHeld => ?_
             clear hK K; refine zn ?_; refine zp 10 55 ?_; refine zp 11 56 ?_; refine zp 12 57 ?_; refine zp 13 58 ?_; refine zp 14 59 ?_; refine zp 15 60 ?_; refine zp 17 62 ?_; refine zp 20 65 ?_; refine zp 21 66 ?_; refine zp 22 67 ?_; refine zp 23 68 ?_; refine zt 16 61 ?_; refine zp 18 63 ?_; refine zt 19 64 ?_; refine zt 24 69 ?_; refine zp 25 70 ?_; refine zp 26 71 ?_
             refine done_ (done_of HT_.out (by kernel_rfl)) ?_
             try go_wp2
             go_ret
             exact ⟨zE, zB⟩
            have A4 := beq_eq_false_iff_ne.mpr j7; have A5 := bne_iff_ne.mpr j7; have H' := zA H; clear H; have b3 : 0 ≤ (a0 : Int) := zD; have b4 : a0 < (l0.length : Int) := zD; obtain ⟨a1, p0, p1, p3, p5, p6, p7, i5, c7, d0, d1, d2, d3, d4, d5, d6, d7, d8⟩ := at_T45 a4.out a0 b3 b4; cases i5; replace c7 := zx HB c7; replace d0 := zx HB d0; replace d1 := zx HB d1; replace d2 := zx HB d2; have p8 := zA d4; have p9 := zA d3; clear d4 d3; have q0 := zA d6; have q1 := zA d5; clear d6 d5; have q2 := zA d8; have q3 := zA d7; clear d8 d7; replace b3 := eq_true b3; replace b4 := eq_true b4
            try go_wp2
            replace HB := zA (below_drew1 HB.out); have d9 : 0 ≤ (a0 : Int) := zD; have e0 : a0 < (l0.length : Int) := zD; obtain ⟨k7, v8, f4, f5, f6, f7, f8, k8, b7, a6, a7, a8, h8, h9, i0, i1, i2, i3⟩ := at_T45 a4.out a0 d9 e0; have v9 := a8; have x0 := a7; have x1 := a6; have x2 := b7; obtain rfl : a1 = k7 := (by injection k8); replace b7 := zx HB b7; replace a6 := zx HB a6; replace a7 := zx HB a7; replace a8 := zx HB a8; have i4 := zA h9; have x3 := zA h8; clear h9 h8; have k9 := zA i1; have x4 := zA i0; clear i1 i0; have l2 := zA i3; have x5 := zA i2; clear i3 i2; replace d9 := eq_true d9; replace e0 := eq_true e0; have e1 : 0 ≤ (a3 : Int) := zD; have e2 : a3 < (((rd_T45 l0 a0).f1).length : Int) := zD; obtain ⟨j6, l3, b8⟩ := Kd.at_string i4.out a3 e1 e2; have x6 := b8; cases l3; replace b8 := zx HB b8; replace e1 := eq_true e1; replace e2 := eq_true e2; have i6 : 0 ≤ (a0 : Int) := zD; have i7 : a0 < (l0.length : Int) := zD; obtain ⟨q5, A6, A8, A9, B0, B1, B2, q6, f9, e3, e4, e5, l4, l5, l6, l7, l8, l9⟩ := at_T45 a4.out a0 i6 i7; have B3 := e5; have B4 := e4; have B5 := e3; have B6 := f9; obtain rfl : a1 = q5 := (by injection q6); replace f9 := zx HB f9; replace e3 := zx HB e3; replace e4 := zx HB e4; replace e5 := zx HB e5; have m0 := zA l5; have B7 := zA l4; clear l5 l4; have q7 := zA l7; have B8 := zA l6; clear l7 l6; have q8 := zA l9; have B9 := zA l8; clear l9 l8; replace i6 := eq_true i6; replace i7 := eq_true i7; have ea_ := Option.some.inj (a6.symm.trans e3); injection ea_ with ea_ en_ ec_; subst ea_; subst ec_; clear en_; have ea_ := Option.some.inj (a7.symm.trans e4); injection ea_ with ea_ en_ ec_; subst ea_; subst ec_; clear en_; have ea_ := Option.some.inj (a8.symm.trans e5); injection ea_ with ea_ en_ ec_; subst ea_; subst ec_; clear en_; have i8 : 0 ≤ (a3 : Int) := zD; have i9 : a3 < (((rd_T45 l0 a0).f1).length : Int) := zD; obtain ⟨b9, m1, g0⟩ := Kd.at_string m0.out a3 i8 i9; have C0 := g0
            (first | (obtain rfl : b9 = j6 := (by injection m1.symm)) | cases m1)
            replace g0 := zx HB g0; replace i8 := eq_true i8; replace i9 := eq_true i9; have j0 : 0 ≤ (a0 : Int) := zD; have j4 : a0 < (l0.length : Int) := zD; obtain ⟨q9, C1, C2, C3, C4, C5, C6, r0, g1, e6, e7, e8, m2, m3, m4, m5, m6, m7⟩ := at_T45 a4.out a0 j0 j4; have C7 := e8; have C8 := e7; have C9 := e6; have D0 := g1; obtain rfl : a1 = q9 := (by injection r0); replace g1 := zx HB g1; replace e6 := zx HB e6; replace e7 := zx HB e7; replace e8 := zx HB e8; have r1 := zA m3; have D1 := zA m2; clear m3 m2; have r2 := zA m5; have D2 := zA m4; clear m5 m4; have r3 := zA m7; have D3 := zA m6; clear m7 m6; replace j0 := eq_true j0; replace j4 := eq_true j4; have ea_ := Option.some.inj (a6.symm.trans e6); injection ea_ with ea_ en_ ec_; subst ea_; subst ec_; clear en_; have ea_ := Option.some.inj (a7.symm.trans e7); injection ea_ with ea_ en_ ec_; subst ea_; subst ec_; clear en_; have ea_ := Option.some.inj (a8.symm.trans e8); injection ea_ with ea_ en_ ec_; subst ea_; subst ec_; clear en_
            refine start_ (n := 27) (S := fun w' => w'.cell? (a1.add ((a0).toNat * 4)) = some (.string ((rd_T45 l0 a0).f0)) ∧ w'.cell? ⟨(a1.add ((a0).toNat * 4)).block, (a1.add ((a0).toNat * 4)).off + 1, none⟩ = some (.slice (some b9) ((rd_T45 l0 a0).f1).length f4) ∧ w'.cell? ⟨(a1.add ((a0).toNat * 4)).block, (a1.add ((a0).toNat * 4)).off + 2, none⟩ = some (.slice f5 ((rd_T45 l0 a0).f2).length f6) ∧ w'.cell? ⟨(a1.add ((a0).toNat * 4)).block, (a1.add ((a0).toNat * 4)).off + 3, none⟩ = some (.slice f7 ((rd_T45 l0 a0).f3).length f8) ∧ w'.cell? (b9.add (a3).toNat) = some (.string (rdOf ByteArray.empty ((rd_T45 l0 a0).f1) a3)) ∧ w'.cell? (a1.add ((a0).toNat * 4)) = some (.string ((rd_T45 l0 a0).f0)) ∧ w'.cell? ⟨(a1.add ((a0).toNat * 4)).block, (a1.add ((a0).toNat * 4)).off + 1, none⟩ = some (.slice (some b9) ((rd_T45 l0 a0).f1).length f4) ∧ w'.cell? ⟨(a1.add ((a0).toNat * 4)).block, (a1.add ((a0).toNat * 4)).off + 2, none⟩ = some (.slice f5 ((rd_T45 l0 a0).f2).length f6) ∧ w'.cell? ⟨(a1.add ((a0).toNat * 4)).block, (a1.add ((a0).toNat * 4)).off + 3, none⟩ = some (.slice f7 ((rd_T45 l0 a0).f3).length f8) ∧ w'.cell? (b9.add (a3).toNat) = some (.string (rdOf ByteArray.empty ((rd_T45 l0 a0).f1) a3)) ∧ w'.cell? (a1.add ((a0).toNat * 4)) = some (.string ((rd_T45 l0 a0).f0)) ∧ w'.cell? ⟨(a1.add ((a0).toNat * 4)).block, (a1.add ((a0).toNat * 4)).off + 1, none⟩ = some (.slice (some b9) ((rd_T45 l0 a0).f1).length f4) ∧ w'.cell? ⟨(a1.add ((a0).toNat * 4)).block, (a1.add ((a0).toNat * 4)).off + 2, none⟩ = some (.slice f5 ((rd_T45 l0 a0).f2).length f6) ∧ w'.cell? ⟨(a1.add ((a0).toNat * 4)).block, (a1.add ((a0).toNat * 4)).off + 3, none⟩ = some (.slice f7 ((rd_T45 l0 a0).f3).length f8)) (ds := []) (Array.replicate 27 false) (by kernel_rfl) rfl rfl zO fun hHeld => ?_; refine with_tabW spec_PacksOk.tab9 spec_PacksOk.bits9 (fun HT_ HW_ => ?_)
            generalize wr.drew = G4 at HB i4 k9 l2 m0 q7 q8 r1 r2 r3 b7 a6 a7 a8 b8 f9 e3 e4 e5 g0 g1 e6 e7 e8 hHeld ⊢; refine zp 0 45 ?_; refine zp 1 46 ?_; refine zp 2 47 ?_; refine zp 3 48 ?_; refine zp 4 49 ?_; refine zp 6 51 ?_; refine zt 5 50 ?_; refine zp 7 52 ?_; refine zt 8 53 ?_
            refine zo 9 (some 54) fun K hK => ?_
            refine goes_ Tryz.func74 (by kernel_rfl) rfl #[.slice (some a1) l0.length c0, .string (rdOf ByteArray.empty ((rd_T45 l0 a0).f1) a3)] (by rfl) rfl rfl zM ?_
            with_reducible refine (spec_FindPack.calls k5 _ _ l0 (rdOf ByteArray.empty ((rd_T45 l0 a0).f1) a3) o8 _ ?s1 ?s2 o9.out).mono ?_
            (case s1 => exact zC (Kd.C_below a4.out HB.out))
            (case s2 => exact n9.out)
            rintro e w' ⟨rfl, ⟨nd, rfl⟩⟩
            refine ⟨_, rfl, ?_⟩
            refine hK.out _ _ zO fun hHeld => ?_
            clear hK K; refine zn ?_; refine zp 10 55 ?_; refine zp 11 56 ?_; refine zp 12 57 ?_; refine zp 13 58 ?_; refine zp 14 59 ?_; refine zp 15 60 ?_; refine zp 17 62 ?_; refine zp 20 65 ?_; refine zp 21 66 ?_; refine zp 22 67 ?_; refine zp 23 68 ?_; refine zt 16 61 ?_; refine zp 18 63 ?_; refine zt 19 64 ?_; refine zt 24 69 ?_; refine zp 25 70 ?_; refine zp 26 71 ?_
            refine done_ (done_of HT_.out (by kernel_rfl)) ?_
            try go_wp2
            go_roundg k5
            case measure => have := e9.out; have := g2.out; have := k6.out; have := n7.out; have := n8.out; omega
            case rel => exact ⟨(wrap64 (a3 + 1)), zS, H', ⟨by have := e9.out; have := g2.out; have := k6.out; have := n7.out; have := n8.out; omega⟩, ⟨zB⟩⟩
           have H' := zA H; clear H; have b3 : 0 ≤ (a0 : Int) := zD; have b4 : a0 < (l0.length : Int) := zD; obtain ⟨a1, p0, p1, p3, p5, p6, p7, i5, c7, d0, d1, d2, d3, d4, d5, d6, d7, d8⟩ := at_T45 a4.out a0 b3 b4; cases i5; replace c7 := zx HB c7; replace d0 := zx HB d0; replace d1 := zx HB d1; replace d2 := zx HB d2; have p8 := zA d4; have p9 := zA d3; clear d4 d3; have q0 := zA d6; have q1 := zA d5; clear d6 d5; have q2 := zA d8; have q3 := zA d7; clear d8 d7; replace b3 := eq_true b3; replace b4 := eq_true b4
           go_wp2
           go_roundg k5
           case measure => have := e9.out; have := g2.out; have := k6.out; have := n7.out; have := n8.out; omega
           case rel => exact ⟨(wrap64 (a0 + 1)), zS, H', ⟨by have := e9.out; have := g2.out; have := k6.out; have := n7.out; have := n8.out; omega⟩, ⟨zB⟩⟩
/-! ### laws_toStringS: function 49 -/
def laws_toStringS.l0 : Nat → List ByteArray → List ByteArray → Int → Option (List ByteArray)
 | 0, _, _, _ => none
 | k + 1, x0, x3, x4 => if x4 < (x0.length : Int) then (if 0 ≤ x4 then (if x4 < (x3.length : Int) then (laws_toStringS.l0 k x0 (x3.set (x4 : Int).toNat (rdOf ByteArray.empty x0 x4)) (wrap64 (x4 + 1))) else (none)) else (none)) else (some x3)
def laws_toStringS.f (k : Nat) (l0 : List ByteArray) : Option (List ByteArray) := if 0 ≤ (l0.length : Int) then (if ((l0.length : Int) : Int).toNat ≤ 17592186044416 then (laws_toStringS.l0 k l0 (List.replicate ((l0.length : Int) : Int).toNat (⟨#[]⟩ : ByteArray)) 0) else (none)) else (none)
theorem laws_toStringS.calls (k : Nat) (A0 : Option Addr) (c0 : Nat) (l0 r : List ByteArray) (w : World) (b2 : Kd.C Kd.string w A0 l0.length l0) (b3 : l0.length ≤ c0) (h : laws_toStringS.f k l0 = some r) :
  Calls Tryz.prog 49 #[.slice A0 l0.length c0] w fun e w' => ∃ b4 : Value, e = .returned (b4) ∧ Kd.R Kd.string 9 w' w.heap.size (fun _ => True) b4 r ∧ Below w.heap.size w w' := by
 have c6 := zA b2
 have d9 := zA b3
 clear b2 b3
 have HB := zA (Below.refl w.heap.size w)
 unfold laws_toStringS.f at h
 have H := h
 clear h
 replace H := zC0 H
 obtain ⟨c2, H⟩ := H
 have c7 := eq_true c2
 have c8 := decide_eq_true c2
 clear c2
 replace H := zC0 H
 obtain ⟨c3, H⟩ := H
 have c9 := eq_true c3
 have d0 := decide_eq_true c3
 clear c3
 obtain ⟨b5, a4⟩ : ∃ y_ : List ByteArray, y_ = (List.replicate ((l0.length : Int) : Int).toNat (⟨#[]⟩ : ByteArray)) := ⟨_, rfl⟩
 replace H : (laws_toStringS.l0 k l0 b5 0) = some r := zY a4 H
 have b6 := zA a4
 clear a4
 have H' := zA H
 clear H
 go_enter Tryz.func49, Tryz.ntmps49
 go_wp2_with (first | ((with_reducible refine gate_dst (N := 7) rfl ?_); refine Kd.R_make Kd.string _ 9 rfl (N := 7) rfl 24 _ _ rfl (l0.length : Int) rfl rfl Tryz.underlying24 (.string ⟨#[]⟩) 16 info9 rfl (by decide) (by omega) (⟨#[]⟩ : ByteArray) (ok := fun _ => True) (okp := fun _ => True) rfl (fun _ hk => hk) trivial (zD) (Nat.le_trans (Nat.mul_le_mul_right _ (zD : (l0.length : Int).toNat ≤ 17592186044416)) (by omega)) (Below.refl _ _) (Nat.le_refl _) ?_; intro d1 w4 a3 hb hg_ hnew_; clear hg_ hnew_; (first | rw [← b6.out] at a3 | (simp only [Int.reduceToNat] at a3; rw [← b6.out] at a3)); have d2 := zA (Kd.R_lower a3 (below_size (zB))); replace HB := zA (below_step (zB) hb); clear hb a3))
 go_loopg [4] k (fun kq v4 w' => ∃ (a1 : List ByteArray) (a0 : Int), v4 = .int .i64 a0 ∧ Aside0 (laws_toStringS.l0 kq l0 a1 a0 = some r) ∧ Aside0 (kq ≤ k) ∧ Aside0 (Kd.R Kd.string 9 w' w.heap.size (fun _ => True) d1 a1) ∧ Aside0 (Below w.heap.size w w'))
 case atStart => exact ⟨(b5), (0), zS, H', ⟨Nat.le_refl _⟩, ⟨zR d2.out⟩, ⟨zB⟩⟩
 case round =>
  clear H'
  try clear c2
  try clear c7
  try clear c8
  try clear p2
  try clear c3
  try clear c9
  try clear d0
  try clear c4
  obtain ⟨a1, a0, rfl, HA, b7, a2, HB⟩ := hrel
  cases gk with
  | zero => exact absurd HA.out (by simp [laws_toStringS.l0])
  | succ k1 =>
   have H := HA.out; clear HA; simp only [laws_toStringS.l0] at H; replace H := zI0 H
   rcases H with ⟨d3, H⟩ | ⟨d3, H⟩
   ·replace H := zD0 H; obtain ⟨e0, H⟩ := H; replace H := zD0 H; obtain ⟨e1, H⟩ := H; obtain ⟨a5, a6⟩ : ∃ y_ : List ByteArray, y_ = (a1.set (a0 : Int).toNat (rdOf ByteArray.empty l0 a0)) := ⟨_, rfl⟩; replace H : (laws_toStringS.l0 k1 l0 a5 (wrap64 (a0 + 1))) = some r := zY a6 H; have d4 := zA a6; clear a6; have H' := zA H; clear H; have a7 : 0 ≤ (a0 : Int) := zD; have a8 : a0 < (l0.length : Int) := zD; obtain ⟨e2, d5, b8⟩ := Kd.at_string c6.out a0 a7 a8; cases d5; replace b8 := zx HB b8; replace a7 := eq_true a7; replace a8 := eq_true a8; have p9 : 0 ≤ (a0 : Int) := zD; have q9 : (a0 : Int) < ((a1.length : Int) : Int) := zD; obtain ⟨a9, d6, b9, c1, d7, e3, c5⟩ := Kd.R_form a2.out (by omega)
    (first | cases b9 | (injection b9 with ea_ en_ ec_; (first | subst ea_ | (injection ea_ with ea_; subst ea_)); subst ec_; clear en_))
    have d8 := zA c1; have e4 := zA c5; clear c1 d7 c5; obtain ⟨e5, e6⟩ := Kd.R_celln (⟨#[]⟩ : ByteArray) a2.out (a0 : Int) p9 q9; replace p9 := eq_true p9; replace q9 := eq_true q9; have b0 := Kd.R_putg a2.out (a0 : Int) (rdOf ByteArray.empty l0 a0)
    go_wp2_with (first | ((with_reducible refine gate_store (t := 9) (p := 20) rfl ?_); refine store_event (t := 9) (p := 20) (v := ?vo_w11) (w1 := (wr.setCell ⟨a9, (a0 : Int).toNat, none⟩ (.string (rdOf ByteArray.empty l0 a0)))) ?hg ?ho ?hn ?hr ?_; (case ho => rfl); (case hg => rfl); (case hn => rfl); (case hr => first | (go_simp; done) | (go_simp; rfl)); intro b1 hw; have hg : wr.grownBy b1 (some a9) := (by rw [hw]; exact b0.2); have hp_ : Kd.R Kd.string 9 b1 w.heap.size (fun _ => True) (.slice (some ⟨a9, 0, none⟩) a1.length d6) a5 := (by rw [hw, d4.out]; exact b0.1); clear b0; replace a2 := zA (hp_); replace HB := zA ((by rw [hw]; exact below_set (HB.out) d8.out : Below w.heap.size w b1)); clear hg hw hp_))
    go_roundg k1
    case measure => have := b7.out; omega
    case rel => exact ⟨(a5), (wrap64 (a0 + 1)), zS, H', ⟨by have := b7.out; omega⟩, ⟨zR a2.out⟩, ⟨zB⟩⟩
   obtain rfl := zm H
   go_wp2
   go_ret
   exact ⟨_, zE, zR a2.out, zB⟩
/-! ### laws_toNeed: function 12 -/
def laws_toNeed.f (a0 a1 : ByteArray) : Option (ByteArray × ByteArray) := some (a0, a1)
theorem laws_toNeed.calls (a2 a3 r1 r2 : ByteArray) (w : World) (h : laws_toNeed.f a2 a3 = some (r1, r2)) :
  Calls Tryz.prog 12 #[.agg #[.string a2, .string a3]] w fun e w' => e = .returned (.agg #[.string r1, .string r2]) ∧ Below w.heap.size w w' := by
 have b2 := Tryz.underlying23
 have b3 := Tryz.underlying30
 have HB := zA (Below.refl w.heap.size w)
 unfold laws_toNeed.f at h
 have H := h
 clear h
 simp only [zU] at H
 obtain ⟨rfl, rfl⟩ := H
 go_enter Tryz.func12, Tryz.ntmps12
 go_wp2_with (first | ((with_reducible refine zd 1 ?_); refine ze 1 23 #[.string a2, .string a3] ?_; intro b4 hg w2 hbox hb; have a0 := zA (hbox); have b5 := zi HB hg; have b6 := zi HB hg; replace HB := zA (below_step (zB) hb); clear hb hbox hg) | ((with_reducible refine zd 2 ?_); refine ze 2 30 #[.string (⟨#[]⟩ : ByteArray), .string (⟨#[]⟩ : ByteArray)] ?_; intro a5 hg w3 hbox hb; have a1 := zA (hbox); have b7 := zi HB hg; have b8 := zi HB hg; replace HB := zh HB hb; have a6 := zA (zL hg (zK a0.out)); have a7 := zA (zJ hg (zK a0.out)); replace a0 := zb a0 hb; clear hb hbox hg) | ((with_reducible refine zd 3 ?_); refine ze 3 30 #[.string (⟨#[]⟩ : ByteArray), .string (⟨#[]⟩ : ByteArray)] ?_; intro b9 hg w4 hbox hb; have a8 := zA (hbox); have c0 := zi HB hg; have c1 := zi HB hg; replace HB := zh HB hb; have a9 := zA (zL hg (zK a0.out)); have b0 := zA (zJ hg (zK a0.out)); replace a0 := zb a0 hb; have a4 := zA (zL hg (zK a1.out)); have b1 := zA (zJ hg (zK a1.out)); replace a1 := zb a1 hb; clear hb hbox hg; have c2 := a6.out; have c3 := a7.out; have c4 := a9.out; have c5 := b0.out; obtain ⟨c6, c7, c8, c9⟩ := ze2 a0.out; have d0 := b1.out; have d1 := a4.out; obtain ⟨d2, d3, d4, d5⟩ := ze2 a8.out; obtain ⟨d6, d7, d8, d9⟩ := ze2 a1.out))
 refine bodyPost_ret (results_cell_row rfl _ _ a5 30 #[.string a2, .string a3] (0, 0) _ rfl (by (with_reducible repeat (first | refine blk_drewN ?_ _ | refine blk_drew ?_ | refine blk_alloc ?_ _)); refine blk_put (cs := #[.string a2, .string (⟨#[]⟩ : ByteArray)]) ?_ 1 _ rfl; (with_reducible repeat (first | refine blk_drewN ?_ _ | refine blk_drew ?_ | refine blk_alloc ?_ _)); refine blk_put (cs := #[.string (⟨#[]⟩ : ByteArray), .string (⟨#[]⟩ : ByteArray)]) ?_ 0 _ rfl; (with_reducible repeat (first | refine blk_drewN ?_ _ | refine blk_drew ?_ | refine blk_alloc ?_ _)); refine blk_far ?_ a4.out _; (with_reducible repeat (first | refine blk_drewN ?_ _ | refine blk_drew ?_ | refine blk_alloc ?_ _)); refine blk_far ?_ a4.out _; (with_reducible repeat (first | refine blk_drewN ?_ _ | refine blk_drew ?_ | refine blk_alloc ?_ _)); exact a1.out) Tryz.underlying30 rfl (by kernel_rfl)) rfl ?_
 exact ⟨zE, zW HB.out⟩
/-! ### laws_toNeedS: function 58 -/
def laws_toNeedS.l0 : Nat → List (S23) → List (S30) → Int → Option ((List (S30)))
 | 0, _, _, _ => none
 | k + 1, x0, x3, x4 => if x4 < (x0.length : Int) then (if 0 ≤ x4 then ((laws_toNeed.f ((rd_T23 x0 x4).f0) ((rd_T23 x0 x4).f1)).bind fun a0 => (if x4 < (x3.length : Int) then (laws_toNeedS.l0 k x0 (x3.set (x4 : Int).toNat (⟨a0.1, a0.2⟩ : S30)) (wrap64 (x4 + 1))) else (none))) else (none)) else (some x3)
def laws_toNeedS.f (k : Nat) (l0 : List (S23)) : Option ((List (S30))) := if 0 ≤ (l0.length : Int) then (if ((l0.length : Int) : Int).toNat ≤ 8796093022208 then (laws_toNeedS.l0 k l0 (List.replicate ((l0.length : Int) : Int).toNat z30) 0) else (none)) else (none)
theorem laws_toNeedS.calls (k : Nat) (A0 : Option Addr) (c0 : Nat) (l0 : List (S23)) (r : List (S30)) (w : World) (c4 : Kd.C k23 w A0 l0.length l0) (c6 : l0.length ≤ c0) (h : laws_toNeedS.f k l0 = some r) :
  Calls Tryz.prog 58 #[.slice A0 l0.length c0] w fun e w' => ∃ c7 : Value, e = .returned (c7) ∧ Kd.R k30 30 w' w.heap.size (fun _ => True) c7 r ∧ Below w.heap.size w w' := by
 have g1 := Tryz.underlying23
 have g2 := Tryz.underlying30
 have e3 := zA c4
 have g3 := zA c6
 clear c4 c6
 have HB := zA (Below.refl w.heap.size w)
 unfold laws_toNeedS.f at h
 have H := h
 clear h
 replace H := zC0 H
 obtain ⟨c2, H⟩ := H
 have e4 := eq_true c2
 have e5 := decide_eq_true c2
 clear c2
 replace H := zC0 H
 obtain ⟨c3, H⟩ := H
 have e6 := eq_true c3
 have e7 := decide_eq_true c3
 clear c3
 obtain ⟨c8, a9⟩ : ∃ y_ : List (S30), y_ = (List.replicate ((l0.length : Int) : Int).toNat z30) := ⟨_, rfl⟩
 replace H : (laws_toNeedS.l0 k l0 c8 0) = some r := zY a9 H
 have c9 := zA a9
 clear a9
 have H' := zA H
 clear H
 go_enter Tryz.func58, Tryz.ntmps58
 go_wp2_with (first | ((with_reducible refine gate_dst (N := 7) rfl ?_); refine Kd.R_make k30 _ 30 rfl (N := 7) rfl 42 _ _ rfl (l0.length : Int) rfl rfl Tryz.underlying42 (.agg #[(.string ⟨#[]⟩), (.string ⟨#[]⟩)]) 32 info30 rfl (by decide) (by omega) z30 (ok := fun _ => True) (okp := fun _ => True) (k30_mkM _ _ _ z30 ) (fun _ hk => hk) trivial (zD) (Nat.le_trans (Nat.mul_le_mul_right _ (zD : (l0.length : Int).toNat ≤ 8796093022208)) (by omega)) (Below.refl _ _) (Nat.le_refl _) ?_; intro e8 w4 a7 hb hg_ hnew_; clear hg_ hnew_; (first | rw [← c9.out] at a7 | (simp only [Int.reduceToNat] at a7; rw [← c9.out] at a7)); have e9 := zA (Kd.R_lower a7 (below_size (zB))); replace HB := zA (below_step (zB) hb); clear hb a7))
 go_loopg [4] k (fun kq v4 w' => ∃ (a1 : List (S30)) (a0 : Int), v4 = .int .i64 a0 ∧ Aside0 (laws_toNeedS.l0 kq l0 a1 a0 = some r) ∧ Aside0 (kq ≤ k) ∧ Aside0 (Kd.R k30 30 w' w.heap.size (fun _ => True) e8 a1) ∧ Aside0 (Below w.heap.size w w'))
 case atStart => exact ⟨(c8), (0), zS, H', ⟨Nat.le_refl _⟩, ⟨zR e9.out⟩, ⟨zB⟩⟩
 case round =>
  clear H'
  try clear c2
  try clear e4
  try clear e5
  try clear p2
  try clear c3
  try clear e6
  try clear e7
  try clear c5
  obtain ⟨a1, a0, rfl, HA, d0, a2, HB⟩ := hrel
  cases gk with
  | zero => exact absurd HA.out (by simp [laws_toNeedS.l0])
  | succ k1 =>
   have H := HA.out; clear HA; simp only [laws_toNeedS.l0] at H; replace H := zI0 H
   rcases H with ⟨f2, H⟩ | ⟨f2, H⟩
   ·replace H := zD0 H; obtain ⟨g4, H⟩ := H; replace H := Option.bind_eq_some_iff.mp H; obtain ⟨⟨a5, a6⟩, d1, H⟩ := H
    try dsimp only at H
    have A8 := zA d1; clear d1; replace H := zD0 H; obtain ⟨g5, H⟩ := H; obtain ⟨b0, b1⟩ : ∃ y_ : List (S30), y_ = (a1.set (a0 : Int).toNat (⟨a5, a6⟩ : S30)) := ⟨_, rfl⟩; replace H : (laws_toNeedS.l0 k1 l0 b0 (wrap64 (a0 + 1))) = some r := zY b1 H; have f3 := zA b1; clear b1; have H' := zA H; clear H; have b2 : 0 ≤ (a0 : Int) := zD; have b3 : a0 < (l0.length : Int) := zD; obtain ⟨g6, f4, d2, d3⟩ := at_T23 e3.out a0 b2 b3; cases f4; replace d2 := zx HB d2; replace d3 := zx HB d3; replace b2 := eq_true b2; replace b3 := eq_true b3
    go_wp2_with (first | ((with_reducible refine zq 12 ?_); refine zg (some 20) Tryz.func12 #[.agg #[.string ((rd_T23 l0 a0).f0), .string ((rd_T23 l0 a0).f1)]] ?_; (with_reducible refine (laws_toNeed.calls ((rd_T23 l0 a0).f0) ((rd_T23 l0 a0).f1) a5 a6 _ A8.out).mono ?_); rintro e a4 ⟨rfl, hb⟩; refine ⟨_, rfl, ?_⟩; replace a2 := zr a2 hb; replace HB := zA (below_step (zB) hb); (try clear hb); have b4 : 0 ≤ (a0 : Int) := zD; have b5 : (a0 : Int) < ((a1.length : Int) : Int) := zD; obtain ⟨a3, d4, d5, d6, f5, g7, d7⟩ := Kd.R_form a2.out (by omega); (first | cases d5 | (injection d5 with ea_ en_ ec_; (first | subst ea_ | (injection ea_ with ea_; subst ea_)); subst ec_; clear en_)); have d8 := zA d6; have g8 := zA d7; clear d6 f5 d7; obtain ⟨g9, f6, d9, b6, b7⟩ := Kd.R_elem a2.out z30 (a0 : Int) b4 b5; obtain rfl := k30_openM d9; have h0 : a4.cell? ⟨a3, (a0 : Int).toNat * 2, none⟩ = some (.string ((rd_T30 a1 a0).f0)) := b6 0 _ rfl; have h1 : a4.cell? ⟨a3, (a0 : Int).toNat * 2 + 1, none⟩ = some (.string ((rd_T30 a1 a0).f1)) := b6 1 _ rfl; have h2 : a4.frozen? ⟨a3, (a0 : Int).toNat * 2, none⟩ = false := b7 0; have h3 : a4.frozen? ⟨a3, (a0 : Int).toNat * 2 + 1, none⟩ = false := b7 1; clear f6 b6 b7; (try clear d9); replace b4 := eq_true b4; replace b5 := eq_true b5; have e0 := zA (show Kd.R k30 30 a4 w.heap.size (fun _ => True) (.slice (some ⟨a3, 0, none⟩) a1.length d4) a1 from (zR a2.out)); obtain ⟨h4, e1, e2, a8, b8⟩ := Kd.R_elem e0.out z30 (a0 : Int) (zD) (by have h_ : (a0 : Int) < ((a1.length : Int) : Int) := zD; first | exact h_ | (have e_ := (Kd.R_reads' a2.out).1; omega) | simpa using h_); obtain rfl := k30_openM e2; have b9 := Kd.R_seg e0.out (a0 : Int) (zD) (by have h_ : (a0 : Int) < ((a1.length : Int) : Int) := zD; first | exact h_ | (have e_ := (Kd.R_reads' a2.out).1; omega) | simpa using h_) (seg := [.string a5, .string a6]) (j := 0) e1 a8 (show 2 ≤ 2 from by decide) (x' := (⟨a5, a6⟩ : S30)) (k30_mkM _ _ _ (⟨a5, a6⟩ : S30) ) (fun _ hk => hk); have f7 := a8 0 _ rfl; (try simp only [show (k30).sz = 2 from rfl, Nat.mul_one, Nat.add_zero] at f7); have f8 := b8 0; (try simp only [show (k30).sz = 2 from rfl, Nat.mul_one, Nat.add_zero] at f8); have f9 := a8 1 _ rfl; (try simp only [show (k30).sz = 2 from rfl, Nat.mul_one, Nat.add_zero] at f9); have g0 := b8 1; (try simp only [show (k30).sz = 2 from rfl, Nat.mul_one, Nat.add_zero] at g0); clear e1 a8 b8; (try clear e2)) | ((with_reducible refine gate_store (t := 30) (p := 21) rfl ?_); refine store_event (t := 30) (p := 21) (v := ?vo_w13) (w1 := ((a4.setCell ⟨a3, (a0 : Int).toNat * 2, none⟩ (.string a5)).setCell ⟨a3, (a0 : Int).toNat * 2 + 1, none⟩ (.string a6))) ?hg ?ho ?hn ?hr ?_; (case ho => rfl); (case hg => rfl); (case hn => rfl); (case hr => first | (go_simp; done) | (go_simp; rfl)); intro c1 hw; have hg : a4.grownBy c1 (some a3) := (by rw [hw]; exact b9.2); have hp_ : Kd.R k30 30 c1 w.heap.size (fun _ => True) (.slice (some ⟨a3, 0, none⟩) a1.length d4) b0 := (by rw [hw, f3.out]; exact b9.1); clear b9; replace a2 := zA (hp_); replace HB := zA ((by rw [hw]; exact below_set (below_set (HB.out) d8.out) d8.out : Below w.heap.size w c1)); clear hg hw hp_))
    go_roundg k1
    case measure => have := d0.out; omega
    case rel => exact ⟨(b0), (wrap64 (a0 + 1)), zS, H', ⟨by have := d0.out; omega⟩, ⟨zR a2.out⟩, ⟨zB⟩⟩
   obtain rfl := zm H
   go_wp2
   go_ret
   exact ⟨_, zE, zR a2.out, zB⟩
/-! ### laws_toCmd: function 111 -/
def laws_toCmd.f (k : Nat) (a0 : ByteArray) (a1 : List ByteArray) : Option (ByteArray × List ByteArray) := (laws_toStringS.f k a1).bind fun a2 => (some (a0, a2))
theorem laws_toCmd.calls (k : Nat) (a3 : ByteArray) (a5 : Option Addr) (a6 : Nat) (a2 : List ByteArray) (r1 : ByteArray) (r2 : List ByteArray) (w : World) (b1 : Kd.C Kd.string w a5 a2.length a2) (b2 : a2.length ≤ a6) (h : laws_toCmd.f k a3 a2 = some (r1, r2)) :
  Calls Tryz.prog 111 #[.agg #[.string a3, .slice a5 a2.length a6]] w fun e w' => ∃ b3 : Value, e = .returned (.agg #[.string r1, b3]) ∧ Kd.R Kd.string 9 w' w.heap.size (fun _ => True) b3 r2 ∧ Below w.heap.size w w' := by
 have c7 := Tryz.underlying134
 have c8 := Tryz.underlying93
 have b9 := zA b1
 have c0 := zA b2
 clear b1 b2
 have HB := zA (Below.refl w.heap.size w)
 unfold laws_toCmd.f at h
 have H := h
 clear h
 replace H := Option.bind_eq_some_iff.mp H
 obtain ⟨a7, b4, H⟩ := H
 try dsimp only at H
 have A2 := zA b4
 clear b4
 simp only [zU] at H
 obtain ⟨rfl, rfl⟩ := H
 go_enter Tryz.func111, Tryz.ntmps111
 go_wp2_with (first | ((with_reducible refine zd 1 ?_); refine ze 1 134 #[.string a3, .slice a5 a2.length a6] ?_; intro c9 hg w3 hbox hb; have a0 := zA (hbox); have d0 := zi HB hg; have d1 := zi HB hg; replace HB := zA (below_step (zB) hb); clear hb hbox hg) | ((with_reducible refine zd 2 ?_); refine ze 2 93 #[.string (⟨#[]⟩ : ByteArray), .slice none 0 0] ?_; intro a8 hg w4 hbox hb; have a1 := zA (hbox); have d2 := zi HB hg; have d3 := zi HB hg; replace HB := zh HB hb; have c1 := zA (zL hg (zK a0.out)); have c2 := zA (zJ hg (zK a0.out)); replace a0 := zb a0 hb; clear hb hbox hg) | ((with_reducible refine zd 3 ?_); refine ze 3 93 #[.string (⟨#[]⟩ : ByteArray), .slice none 0 0] ?_; intro b5 hg w5 hbox hb; have a4 := zA (hbox); have d4 := zi HB hg; have d5 := zi HB hg; replace HB := zh HB hb; have c3 := zA (zL hg (zK a0.out)); have c4 := zA (zJ hg (zK a0.out)); replace a0 := zb a0 hb; have b6 := zA (zL hg (zK a1.out)); have c5 := zA (zJ hg (zK a1.out)); replace a1 := zb a1 hb; clear hb hbox hg; have d6 := c1.out; have d7 := c2.out; have d8 := c3.out; have d9 := c4.out; obtain ⟨e0, e1, e2, e3⟩ := ze2 a0.out; have e4 := c5.out; have e5 := b6.out; obtain ⟨e6, e7, e8, e9⟩ := ze2 a4.out) | ((with_reducible refine zq 49 ?_); refine zg (some 9) Tryz.func49 #[.slice a5 a2.length a6] ?_; (with_reducible refine (laws_toStringS.calls k _ _ a2 a7 _ ?s1 ?s2 A2.out).mono ?_); (case s1 => exact Kd.C_below b9.out (zW HB.out)); (case s2 => exact c0.out); rintro e f0 ⟨f1, rfl, b7, hb⟩; refine ⟨_, rfl, ?_⟩; have b8 := zA (Kd.R_lower b7 (below_size (zW HB.out))); replace a0 := zb a0 hb; replace a1 := zb a1 hb; replace a4 := zA (blk_below (g := b5) (o := .cells #[.string a3, .slice none 0 0] 93 (0, 0)) (by (with_reducible repeat (first | refine blk_drewN ?_ _ | refine blk_drew ?_ | refine blk_alloc ?_ _)); refine blk_put (cs := #[.string (⟨#[]⟩ : ByteArray), .slice none 0 0]) ?_ 0 _ rfl; (with_reducible repeat (first | refine blk_drewN ?_ _ | refine blk_drew ?_ | refine blk_alloc ?_ _)); exact a4.out) hb); replace HB := zh HB hb; (try clear hb b7); obtain ⟨a9, b0, c6⟩ := Kd.R_slice b8.out; subst c6; obtain ⟨f2, f3, f4, f5⟩ := ze2 a4.out; obtain ⟨f6, f7, f8, f9⟩ := ze2 a1.out))
 refine bodyPost_ret (results_cell_row rfl _ _ a8 93 #[.string a3, .slice a9 a7.length b0] (0, 0) _ rfl (by (with_reducible repeat (first | refine blk_drewN ?_ _ | refine blk_drew ?_ | refine blk_alloc ?_ _)); refine blk_put (cs := #[.string a3, .slice none 0 0]) ?_ 1 _ rfl; (with_reducible repeat (first | refine blk_drewN ?_ _ | refine blk_drew ?_ | refine blk_alloc ?_ _)); refine blk_put (cs := #[.string (⟨#[]⟩ : ByteArray), .slice none 0 0]) ?_ 0 _ rfl; (with_reducible repeat (first | refine blk_drewN ?_ _ | refine blk_drew ?_ | refine blk_alloc ?_ _)); refine blk_far ?_ b6.out _; (with_reducible repeat (first | refine blk_drewN ?_ _ | refine blk_drew ?_ | refine blk_alloc ?_ _)); exact a1.out) Tryz.underlying93 rfl (by kernel_rfl)) rfl ?_
 exact ⟨_, zE, zR (Kd.R_mono (Kd.R_far (p := ⟨a8, 1, none⟩) (Kd.R_far (p := ⟨a8, 0, none⟩) (Kd.R_far (p := ⟨b5, 1, none⟩) (Kd.R_types (Kd.R_types b8.out a4.out (by decide)) a1.out (by decide)) (fun _ hk => hk.1.2) (.slice a9 a7.length b0)) (fun _ hk => hk.2) (.string a3)) (fun _ hk => hk.2) (.slice a9 a7.length b0)) (fun _ hk => trivial)), zW HB.out⟩
/-! ### laws_toCmdS: function 59 -/
def laws_toCmdS.l0 : Nat → List (S134) → List (S93) → Int → Option ((List (S93)))
 | 0, _, _, _ => none
 | k + 1, x0, x3, x4 => if x4 < (x0.length : Int) then (if 0 ≤ x4 then ((laws_toCmd.f k ((rd_T134 x0 x4).f0) ((rd_T134 x0 x4).f1)).bind fun a0 => (if x4 < (x3.length : Int) then (laws_toCmdS.l0 k x0 (x3.set (x4 : Int).toNat (⟨a0.1, a0.2⟩ : S93)) (wrap64 (x4 + 1))) else (none))) else (none)) else (some x3)
def laws_toCmdS.f (k : Nat) (l0 : List (S134)) : Option ((List (S93))) := if 0 ≤ (l0.length : Int) then (if ((l0.length : Int) : Int).toNat ≤ 7036874417766 then (laws_toCmdS.l0 k l0 (List.replicate ((l0.length : Int) : Int).toNat z93) 0) else (none)) else (none)
theorem laws_toCmdS.calls (k : Nat) (A0 : Option Addr) (c0 : Nat) (l0 : List (S134)) (r : List (S93)) (w : World) (c8 : Kd.C k134 w A0 l0.length l0) (c9 : l0.length ≤ c0) (h : laws_toCmdS.f k l0 = some r) :
  Calls Tryz.prog 59 #[.slice A0 l0.length c0] w fun e w' => ∃ d0 : Value, e = .returned (d0) ∧ Kd.S k93 93 w' w.heap.size (fun _ => True) d0 r ∧ Below w.heap.size w w' := by
 have h3 := Tryz.underlying134
 have h4 := Tryz.underlying93
 have e7 := zA c8
 have h5 := zA c9
 clear c8 c9
 have HB := zA (Below.refl w.heap.size w)
 unfold laws_toCmdS.f at h
 have H := h
 clear h
 replace H := zC0 H
 obtain ⟨c2, H⟩ := H
 have e8 := eq_true c2
 have e9 := decide_eq_true c2
 clear c2
 replace H := zC0 H
 obtain ⟨c3, H⟩ := H
 have f2 := eq_true c3
 have f3 := decide_eq_true c3
 clear c3
 obtain ⟨d1, b0⟩ : ∃ y_ : List (S93), y_ = (List.replicate ((l0.length : Int) : Int).toNat z93) := ⟨_, rfl⟩
 replace H : (laws_toCmdS.l0 k l0 d1 0) = some r := zY b0 H
 have d2 := zA b0
 clear b0
 have H' := zA H
 clear H
 go_enter Tryz.func59, Tryz.ntmps59
 go_wp2_with (first | ((with_reducible refine gate_dst (N := 7) rfl ?_); refine Kd.S_make k93 _ 93 rfl (N := 7) rfl 43 _ _ rfl (l0.length : Int) rfl rfl Tryz.underlying43 (.agg #[(.string ⟨#[]⟩), (.slice none 0 0)]) 40 info93 rfl (by decide) (by omega) z93 (ok := fun _ => True) (okp := fun _ => True) (k93_mkM _ _ _ z93 (Kd.R_nil _ _ _ _ _)) (fun _ hk => hk) trivial (zD) (Nat.le_trans (Nat.mul_le_mul_right _ (zD : (l0.length : Int).toNat ≤ 7036874417766)) (by omega)) (Below.refl _ _) (Nat.le_refl _) ?_; intro f4 w4 a6 hb hg_ hnew_; clear hg_ hnew_; (first | rw [← d2.out] at a6 | (simp only [Int.reduceToNat] at a6; rw [← d2.out] at a6)); have f5 := zA (Kd.S_lower a6 (below_size (zB))); replace HB := zA (below_step (zB) hb); clear hb a6))
 go_loopg [4] k (fun kq v4 w' => ∃ (a2 : List (S93)) (a0 : Int), v4 = .int .i64 a0 ∧ Aside0 (laws_toCmdS.l0 kq l0 a2 a0 = some r) ∧ Aside0 (kq ≤ k) ∧ Aside0 (Kd.S k93 93 w' w.heap.size (fun _ => True) f4 a2) ∧ Aside0 (Below w.heap.size w w'))
 case atStart => exact ⟨(d1), (0), zS, H', ⟨Nat.le_refl _⟩, ⟨by (with_reducible repeat (first | apply Kd.S_alloc | apply Kd.S_drewN | apply Kd.S_drew)); exact f5.out⟩, ⟨zB⟩⟩
 case round =>
  clear H'
  try clear c2
  try clear e8
  try clear e9
  try clear p2
  try clear c3
  try clear f2
  try clear f3
  try clear c5
  obtain ⟨a2, a0, rfl, HA, d3, a1, HB⟩ := hrel
  cases gk with
  | zero => exact absurd HA.out (by simp [laws_toCmdS.l0])
  | succ k1 =>
   have H := HA.out; clear HA; simp only [laws_toCmdS.l0] at H; replace H := zI0 H
   rcases H with ⟨f6, H⟩ | ⟨f6, H⟩
   ·replace H := zD0 H; obtain ⟨h6, H⟩ := H; replace H := Option.bind_eq_some_iff.mp H; obtain ⟨⟨a5, a7⟩, d4, H⟩ := H
    try dsimp only at H
    have A8 := zA d4; clear d4; replace H := zD0 H; obtain ⟨h7, H⟩ := H; obtain ⟨b1, b2⟩ : ∃ y_ : List (S93), y_ = (a2.set (a0 : Int).toNat (⟨a5, a7⟩ : S93)) := ⟨_, rfl⟩; replace H : (laws_toCmdS.l0 k1 l0 b1 (wrap64 (a0 + 1))) = some r := zY b2 H; have f7 := zA b2; clear b2; have H' := zA H; clear H; have b3 : 0 ≤ (a0 : Int) := zD; have b4 : a0 < (l0.length : Int) := zD; obtain ⟨h8, f8, f9, g0, d5, d6, d7, d8⟩ := at_T134 e7.out a0 b3 b4; cases g0; replace d5 := zx HB d5; replace d6 := zx HB d6; have g1 := zA d8; have g2 := zA d7; clear d8 d7; replace b3 := eq_true b3; replace b4 := eq_true b4
    go_wp2_with (first | ((with_reducible refine zq 111 ?_); refine zg (some 20) Tryz.func111 #[.agg #[.string ((rd_T134 l0 a0).f0), .slice f8 ((rd_T134 l0 a0).f1).length f9]] ?_; (with_reducible refine (laws_toCmd.calls k1 ((rd_T134 l0 a0).f0) _ _ ((rd_T134 l0 a0).f1) a5 a7 _ ?s1 ?s2 A8.out).mono ?_); (case s1 => exact zC (Kd.C_below g1.out HB.out)); (case s2 => exact g2.out); rintro e a4 ⟨a8, rfl, b5, hb⟩; refine ⟨_, rfl, ?_⟩; replace a1 := zA (Kd.S_elder' (by (with_reducible repeat (first | apply Kd.S_alloc | apply Kd.S_drewN | apply Kd.S_drew)); exact a1.out) (Kd.R_base b5) hb); have a9 := zA (Kd.R_lower b5 (below_size (zB))); replace HB := zA (below_step (zB) hb); (try clear hb b5); have b6 : 0 ≤ (a0 : Int) := zD; have b7 : (a0 : Int) < ((a2.length : Int) : Int) := zD; obtain ⟨a3, d9, e0, e1, g3, h9, e2⟩ := Kd.S_form a1.out (by omega); (first | cases e0 | (injection e0 with ea_ en_ ec_; (first | subst ea_ | (injection ea_ with ea_; subst ea_)); subst ec_; clear en_)); have e3 := zA e1; have i0 := zA e2; clear e1 g3 e2; obtain ⟨_, i1, g4, e4, b8, b9, _, _⟩ := Kd.S_elem a1.out z93 (a0 : Int) b6 b7; obtain ⟨g5, rfl, i2⟩ := k93_openM e4; have i3 : a4.cell? ⟨a3, (a0 : Int).toNat * 2, none⟩ = some (.string ((rd_T93 a2 a0).f0)) := b8 0 _ rfl; have i4 : a4.cell? ⟨a3, (a0 : Int).toNat * 2 + 1, none⟩ = some (g5) := b8 1 _ rfl; have i5 : a4.frozen? ⟨a3, (a0 : Int).toNat * 2, none⟩ = false := b9 0; have i6 : a4.frozen? ⟨a3, (a0 : Int).toNat * 2 + 1, none⟩ = false := b9 1; clear g4 b8 b9; (try clear e4); replace b6 := eq_true b6; replace b7 := eq_true b7; have n_ := zA (Kd.S_mono (ok' := (fun k_ => some k_ ≠ (a8 : Value).ownBlock)) a1.out (fun k_ hk => hk.2)); clear a1; have a1 := n_; clear n_; have g6 := zA (show Kd.S k93 93 a4 w.heap.size (fun k_ => ((fun _ => True)) k_ ∧ ¬ ((fun k_ => some k_ = (a8 : Value).ownBlock)) k_) (.slice (some ⟨a3, 0, none⟩) a2.length d9) a2 from (by (with_reducible repeat (first | apply Kd.S_alloc | apply Kd.S_drewN | apply Kd.S_drew)); exact Kd.S_mono a1.out (fun k_ hk => ⟨trivial, fun e_ => hk e_⟩))); obtain ⟨i7, i8, g7, e5, c1, c4, g8, e6⟩ := Kd.S_elem g6.out z93 (a0 : Int) (zD) (by have h_ : (a0 : Int) < ((a2.length : Int) : Int) := zD; first | exact h_ | (have e_ := (Kd.S_reads' a1.out).1; omega) | simpa using h_); obtain ⟨i9, rfl, j0⟩ := k93_openM e5; have c6 := Kd.S_seg e6 (zD) (by have h_ : (a0 : Int) < ((a2.length : Int) : Int) := zD; first | exact h_ | (have e_ := (Kd.S_reads' a1.out).1; omega) | simpa using h_) (seg := [.string a5, a8]) (j := 0) (show 2 ≤ 2 from by decide) (x' := (⟨a5, a7⟩ : S93)) (k93_mkM _ _ _ (⟨a5, a7⟩ : S93) (Kd.R_mono (Kd.R_tight rfl (Kd.R_mono (ok' := fun k_ => ((fun _ => True)) k_ ∧ k_ ≠ a3) (Kd.R_apart' (a9.out) (Kd.S_typed a1.out) (by decide)) (fun k_ hk => ⟨trivial, fun e_ => (hk.2) (by rw [e_]; rfl)⟩))) (fun _ h_ => Or.inr (h_)))) (fun _ hk => hk) (fun k_ hk_ => ((Kd.R_mono (ok' := fun k_ => ((fun _ => True)) k_ ∧ k_ ≠ a3) (Kd.R_apart' (a9.out) (Kd.S_typed a1.out) (by decide)) (fun k_ hk => ⟨trivial, fun e_ => (hk.2) (by rw [e_]; rfl)⟩))).1 k_ hk_.symm); have g9 := c1 0 _ rfl; (try simp only [show (k93).sz = 2 from rfl, Nat.mul_one, Nat.add_zero] at g9); have h0 := c4 0; (try simp only [show (k93).sz = 2 from rfl, Nat.mul_one, Nat.add_zero] at h0); have h1 := c1 1 _ rfl; (try simp only [show (k93).sz = 2 from rfl, Nat.mul_one, Nat.add_zero] at h1); have h2 := c4 1; (try simp only [show (k93).sz = 2 from rfl, Nat.mul_one, Nat.add_zero] at h2); clear g7 c1 c4; (try clear e5); clear g8 e6) | ((with_reducible refine gate_store (t := 93) (p := 21) rfl ?_); refine store_event (t := 93) (p := 21) (v := ?vo_w13) (w1 := ((a4.setCell ⟨a3, (a0 : Int).toNat * 2, none⟩ (.string a5)).setCell ⟨a3, (a0 : Int).toNat * 2 + 1, none⟩ (a8))) ?hg ?ho ?hn ?hr ?_; (case ho => rfl); (case hg => rfl); (case hn => rfl); (case hr => first | (go_simp; done) | (go_simp; rfl) | ((try (obtain ⟨_, _, e_⟩ := Kd.R_slice a9.out; subst e_)); first | (go_simp; done) | (go_simp; rfl))); intro c7 hw; have hg : a4.grownBy c7 (some a3) := (by rw [hw]; exact c6.2); have hp_ : Kd.S k93 93 c7 w.heap.size (fun _ => True) (.slice (some ⟨a3, 0, none⟩) a2.length d9) b1 := (by rw [hw, f7.out]; exact c6.1); clear c6; replace a1 := zA (hp_); replace HB := zA ((by rw [hw]; exact below_set (below_set (HB.out) e3.out) e3.out : Below w.heap.size w c7)); clear a9; clear hg hw hp_))
    go_roundg k1
    case measure => have := d3.out; omega
    case rel => exact ⟨(b1), (wrap64 (a0 + 1)), zS, H', ⟨by have := d3.out; omega⟩, ⟨by (with_reducible repeat (first | apply Kd.S_alloc | apply Kd.S_drewN | apply Kd.S_drew)); exact a1.out⟩, ⟨zB⟩⟩
   obtain rfl := zm H
   go_wp2
   go_ret
   exact ⟨_, zE, by (with_reducible repeat (first | apply Kd.S_alloc | apply Kd.S_drewN | apply Kd.S_drew)); exact a1.out, zB⟩
/-! ### laws_toPack: function 18 -/
def laws_toPack.f (k : Nat) (a0 : ByteArray) (a1 : List ByteArray) (a2 : List (S23)) (a3 : List (S134)) : Option (ByteArray × List ByteArray × (List (S30)) × (List (S93))) := (laws_toStringS.f k a1).bind fun a4 => ((laws_toNeedS.f k a2).bind fun a5 => ((laws_toCmdS.f k a3).bind fun a6 => (some (a0, a4, a5, a6))))
theorem laws_toPack.calls (k : Nat) (a2 : ByteArray) (c0 : Option Addr) (c1 : Nat) (a8 : List ByteArray) (c2 : Option Addr) (c3 : Nat) (a9 : List (S23)) (c4 : Option Addr) (c5 : Nat) (b0 : List (S134)) (r1 : ByteArray) (r2 : List ByteArray) (r3 : List (S30)) (r4 : List (S93)) (w : World) (c8 : Kd.C Kd.string w c0 a8.length a8) (c9 : a8.length ≤ c1) (d0 : Kd.C k23 w c2 a9.length a9) (d1 : a9.length ≤ c3) (d2 : Kd.C k134 w c4 b0.length b0) (d3 : b0.length ≤ c5) (h : laws_toPack.f k a2 a8 a9 b0 = some (r1, r2, r3, r4)) :
  Calls Tryz.prog 18 #[.agg #[.string a2, .slice c0 a8.length c1, .slice c2 a9.length c3, .slice c4 b0.length c5]] w fun e w' => ∃ c7 d4 d5 : Value, e = .returned (.agg #[.string r1, c7, d4, d5]) ∧ Kd.R Kd.string 9 w' w.heap.size (fun _ => True) c7 r2 ∧ Kd.R k30 30 w' w.heap.size (fun _ => True) d4 r3 ∧ Kd.S k93 93 w' w.heap.size (fun k_ => some k_ ≠ (c7 : Value).ownBlock) d5 r4 ∧ Below w.heap.size w w' := by
 have f5 := Tryz.underlying39
 have f6 := Tryz.underlying45
 have e1 := zA c8
 have e2 := zA c9
 clear c8 c9
 have e3 := zA d0
 have e4 := zA d1
 clear d0 d1
 have e5 := zA d2
 have e6 := zA d3
 clear d2 d3
 have HB := zA (Below.refl w.heap.size w)
 unfold laws_toPack.f at h
 have H := h
 clear h
 replace H := Option.bind_eq_some_iff.mp H
 obtain ⟨a5, d6, H⟩ := H
 try dsimp only at H
 have A2 := zA d6
 clear d6
 replace H := Option.bind_eq_some_iff.mp H
 obtain ⟨b3, d7, H⟩ := H
 try dsimp only at H
 have A3 := zA d7
 clear d7
 replace H := Option.bind_eq_some_iff.mp H
 obtain ⟨b1, d8, H⟩ := H
 try dsimp only at H
 have A4 := zA d8
 clear d8
 simp only [zU] at H
 obtain ⟨rfl, rfl, rfl, rfl⟩ := H
 go_enter Tryz.func18, Tryz.ntmps18
 go_wp2_with (first | ((with_reducible refine zd 1 ?_); refine ze 1 39 #[.string a2, .slice c0 a8.length c1, .slice c2 a9.length c3, .slice c4 b0.length c5] ?_; intro f7 hg w5 hbox hb; have a0 := zA (hbox); have f8 := zi HB hg; have f9 := zi HB hg; replace HB := zA (below_step (zB) hb); clear hb hbox hg) | ((with_reducible refine zd 2 ?_); refine ze 2 45 #[.string (⟨#[]⟩ : ByteArray), .slice none 0 0, .slice none 0 0, .slice none 0 0] ?_; intro a4 hg w6 hbox hb; have a3 := zA (hbox); have g0 := zi HB hg; have g1 := zi HB hg; replace HB := zh HB hb; have e7 := zA (zL hg (zK a0.out)); have e8 := zA (zJ hg (zK a0.out)); replace a0 := zb a0 hb; clear hb hbox hg) | ((with_reducible refine zd 3 ?_); refine ze 3 45 #[.string (⟨#[]⟩ : ByteArray), .slice none 0 0, .slice none 0 0, .slice none 0 0] ?_; intro b7 hg w7 hbox hb; have a1 := zA (hbox); have g2 := zi HB hg; have g3 := zi HB hg; replace HB := zh HB hb; have e9 := zA (zL hg (zK a0.out)); have f0 := zA (zJ hg (zK a0.out)); replace a0 := zb a0 hb; have d9 := zA (zL hg (zK a3.out)); have f1 := zA (zJ hg (zK a3.out)); replace a3 := zb a3 hb; clear hb hbox hg; have g4 := e7.out; have g5 := e8.out; have g6 := e9.out; have g7 := f0.out; obtain ⟨g8, g9, h0, h1, h2, h3, h4, h5⟩ := ze4 a0.out; have h6 := f1.out; have h7 := d9.out; obtain ⟨h8, h9, i0, i1, i2, i3, i4, i5⟩ := ze4 a1.out) | ((with_reducible refine zq 49 ?_); refine zg (some 9) Tryz.func49 #[.slice c0 a8.length c1] ?_; (with_reducible refine (laws_toStringS.calls k _ _ a8 a5 _ ?s1 ?s2 A2.out).mono ?_); (case s1 => exact Kd.C_below e1.out (zW HB.out)); (case s2 => exact e2.out); rintro e i6 ⟨i7, rfl, b2, hb⟩; refine ⟨_, rfl, ?_⟩; have b4 := zA (Kd.R_lower b2 (below_size (zW HB.out))); replace a0 := zb a0 hb; replace a3 := zb a3 hb; replace a1 := zA (blk_below (g := b7) (o := .cells #[.string a2, .slice none 0 0, .slice none 0 0, .slice none 0 0] 45 (0, 0)) (by (with_reducible repeat (first | refine blk_drewN ?_ _ | refine blk_drew ?_ | refine blk_alloc ?_ _)); refine blk_put (cs := #[.string (⟨#[]⟩ : ByteArray), .slice none 0 0, .slice none 0 0, .slice none 0 0]) ?_ 0 _ rfl; (with_reducible repeat (first | refine blk_drewN ?_ _ | refine blk_drew ?_ | refine blk_alloc ?_ _)); exact a1.out) hb); replace HB := zh HB hb; (try clear hb b2); obtain ⟨a6, a7, f2⟩ := Kd.R_slice b4.out; subst f2; obtain ⟨i8, i9, j0, j1, j2, j3, j4, j5⟩ := ze4 a1.out; obtain ⟨j6, j7, j8, j9, k0, k1, k2, k3⟩ := ze4 a0.out) | ((with_reducible refine zq 58 ?_); refine zg (some 13) Tryz.func58 #[.slice c2 a9.length c3] ?_; (with_reducible refine (laws_toNeedS.calls k _ _ a9 b3 _ ?s1 ?s2 A3.out).mono ?_); (case s1 => exact Kd.C_below e3.out (zW HB.out)); (case s2 => exact e4.out); rintro e k4 ⟨k5, rfl, b2, hb⟩; refine ⟨_, rfl, ?_⟩; replace b4 := zA (Kd.R_below (zR (zr1 b4.out a1.out)) hb); have c6 := zA (Kd.R_lower b2 (below_size (zW HB.out))); replace a0 := zb a0 hb; replace a3 := zb a3 hb; replace a1 := zA (blk_below (g := b7) (o := .cells #[.string a2, .slice a6 a5.length a7, .slice none 0 0, .slice none 0 0] 45 (0, 0)) (by (with_reducible repeat (first | refine blk_drewN ?_ _ | refine blk_drew ?_ | refine blk_alloc ?_ _)); refine blk_put (cs := #[.string a2, .slice none 0 0, .slice none 0 0, .slice none 0 0]) ?_ 1 _ rfl; (with_reducible repeat (first | refine blk_drewN ?_ _ | refine blk_drew ?_ | refine blk_alloc ?_ _)); exact a1.out) hb); replace HB := zh HB hb; (try clear hb b2); obtain ⟨b8, b9, f3⟩ := Kd.R_slice c6.out; subst f3; obtain ⟨k6, k7, k8, k9, l0, l1, l2, l3⟩ := ze4 a1.out; obtain ⟨l4, l5, l6, l7, l8, l9, m0, m1⟩ := ze4 a0.out) | ((with_reducible refine zq 59 ?_); refine zg (some 17) Tryz.func59 #[.slice c4 b0.length c5] ?_; (with_reducible refine (laws_toCmdS.calls k _ _ b0 b1 _ ?s1 ?s2 A4.out).mono ?_); (case s1 => exact Kd.C_below e5.out (zW HB.out)); (case s2 => exact e6.out); rintro e m2 ⟨m3, rfl, b2, hb⟩; refine ⟨_, rfl, ?_⟩; replace c6 := zA (Kd.R_below (zR (zr1 c6.out a1.out)) hb); have e0 := zA (Kd.S_lower (Kd.S_new' b2 (Kd.R_lt (zR (zr1 b4.out a1.out)))) (below_size (zW HB.out))); replace b4 := zA (Kd.R_below (zR (zr1 b4.out a1.out)) hb); replace a0 := zb a0 hb; replace a3 := zb a3 hb; replace a1 := zA (blk_below (g := b7) (o := .cells #[.string a2, .slice a6 a5.length a7, .slice b8 b3.length b9, .slice none 0 0] 45 (0, 0)) (by (with_reducible repeat (first | refine blk_drewN ?_ _ | refine blk_drew ?_ | refine blk_alloc ?_ _)); refine blk_put (cs := #[.string a2, .slice a6 a5.length a7, .slice none 0 0, .slice none 0 0]) ?_ 2 _ rfl; (with_reducible repeat (first | refine blk_drewN ?_ _ | refine blk_drew ?_ | refine blk_alloc ?_ _)); exact a1.out) hb); replace HB := zh HB hb; (try clear hb b2); obtain ⟨b5, b6, f4⟩ := Kd.S_slice e0.out; subst f4; obtain ⟨m4, m5, m6, m7, m8, m9, n0, n1⟩ := ze4 a1.out; obtain ⟨n2, n3, n4, n5, n6, n7, n8, n9⟩ := ze4 a3.out))
 refine bodyPost_ret (results_cell_row rfl _ _ a4 45 #[.string a2, .slice a6 a5.length a7, .slice b8 b3.length b9, .slice b5 b1.length b6] (0, 0) _ rfl (by (with_reducible repeat (first | refine blk_drewN ?_ _ | refine blk_drew ?_ | refine blk_alloc ?_ _)); refine blk_put (cs := #[.string a2, .slice a6 a5.length a7, .slice b8 b3.length b9, .slice none 0 0]) ?_ 3 _ rfl; (with_reducible repeat (first | refine blk_drewN ?_ _ | refine blk_drew ?_ | refine blk_alloc ?_ _)); refine blk_put (cs := #[.string a2, .slice a6 a5.length a7, .slice none 0 0, .slice none 0 0]) ?_ 2 _ rfl; (with_reducible repeat (first | refine blk_drewN ?_ _ | refine blk_drew ?_ | refine blk_alloc ?_ _)); refine blk_put (cs := #[.string a2, .slice none 0 0, .slice none 0 0, .slice none 0 0]) ?_ 1 _ rfl; (with_reducible repeat (first | refine blk_drewN ?_ _ | refine blk_drew ?_ | refine blk_alloc ?_ _)); refine blk_put (cs := #[.string (⟨#[]⟩ : ByteArray), .slice none 0 0, .slice none 0 0, .slice none 0 0]) ?_ 0 _ rfl; (with_reducible repeat (first | refine blk_drewN ?_ _ | refine blk_drew ?_ | refine blk_alloc ?_ _)); refine blk_far ?_ d9.out _; (with_reducible repeat (first | refine blk_drewN ?_ _ | refine blk_drew ?_ | refine blk_alloc ?_ _)); exact a3.out) Tryz.underlying45 rfl (by kernel_rfl)) rfl ?_
 exact ⟨_, _, _, zE, zR (Kd.R_mono (Kd.R_far (p := ⟨a4, 3, none⟩) (Kd.R_far (p := ⟨a4, 2, none⟩) (Kd.R_far (p := ⟨a4, 1, none⟩) (Kd.R_far (p := ⟨a4, 0, none⟩) (Kd.R_far (p := ⟨b7, 3, none⟩) (Kd.R_types (Kd.R_types b4.out a1.out (by decide)) a3.out (by decide)) (fun _ hk => hk.1.2) (.slice b5 b1.length b6)) (fun _ hk => hk.2) (.string a2)) (fun _ hk => hk.2) (.slice a6 a5.length a7)) (fun _ hk => hk.2) (.slice b8 b3.length b9)) (fun _ hk => hk.2) (.slice b5 b1.length b6)) (fun _ hk => trivial)), zR (Kd.R_mono (Kd.R_far (p := ⟨a4, 3, none⟩) (Kd.R_far (p := ⟨a4, 2, none⟩) (Kd.R_far (p := ⟨a4, 1, none⟩) (Kd.R_far (p := ⟨a4, 0, none⟩) (Kd.R_far (p := ⟨b7, 3, none⟩) (Kd.R_types (Kd.R_types c6.out a1.out (by decide)) a3.out (by decide)) (fun _ hk => hk.1.2) (.slice b5 b1.length b6)) (fun _ hk => hk.2) (.string a2)) (fun _ hk => hk.2) (.slice a6 a5.length a7)) (fun _ hk => hk.2) (.slice b8 b3.length b9)) (fun _ hk => hk.2) (.slice b5 b1.length b6)) (fun _ hk => trivial)), by (with_reducible repeat (first | apply Kd.S_alloc | apply Kd.S_drewN | apply Kd.S_drew)); exact Kd.S_mono (Kd.S_far (p := ⟨a4, 3, none⟩) (Kd.S_far (p := ⟨a4, 2, none⟩) (Kd.S_far (p := ⟨a4, 1, none⟩) (Kd.S_far (p := ⟨a4, 0, none⟩) (Kd.S_far (p := ⟨b7, 3, none⟩) (Kd.S_types (Kd.S_types e0.out a1.out (by decide)) a3.out (by decide)) (fun _ hk => hk.1.2) (.slice b5 b1.length b6)) (fun _ hk => hk.2) (.string a2)) (fun _ hk => hk.2) (.slice a6 a5.length a7)) (fun _ hk => hk.2) (.slice b8 b3.length b9)) (fun _ hk => hk.2) (.slice b5 b1.length b6)) (fun _ hk => hk.1.1.2), zW HB.out⟩
/-! ### laws_toPackS: function 28 -/
def laws_toPackS.l0 : Nat → List (S39) → List (S45) → Int → Option ((List (S45)))
 | 0, _, _, _ => none
 | k + 1, x0, x3, x4 => if x4 < (x0.length : Int) then (if 0 ≤ x4 then ((laws_toPack.f k ((rd_T39 x0 x4).f0) ((rd_T39 x0 x4).f1) ((rd_T39 x0 x4).f2) ((rd_T39 x0 x4).f3)).bind fun a0 => (if x4 < (x3.length : Int) then (laws_toPackS.l0 k x0 (x3.set (x4 : Int).toNat (⟨a0.1, a0.2.1, a0.2.2.1, a0.2.2.2⟩ : S45)) (wrap64 (x4 + 1))) else (none))) else (none)) else (some x3)
def laws_toPackS.f (k : Nat) (l0 : List (S39)) : Option ((List (S45))) := if 0 ≤ (l0.length : Int) then (if ((l0.length : Int) : Int).toNat ≤ 3198579280802 then (laws_toPackS.l0 k l0 (List.replicate ((l0.length : Int) : Int).toNat z45) 0) else (none)) else (none)
theorem laws_toPackS.calls (k : Nat) (A0 : Option Addr) (c0 : Nat) (l0 : List (S39)) (r : List (S45)) (w : World) (d6 : Kd.C k39 w A0 l0.length l0) (d7 : l0.length ≤ c0) (h : laws_toPackS.f k l0 = some r) :
  Calls Tryz.prog 28 #[.slice A0 l0.length c0] w fun e w' => ∃ d8 : Value, e = .returned (d8) ∧ Kd.R k45 45 w' w.heap.size (fun _ => True) d8 r ∧ Below w.heap.size w w' := by
 have k0 := Tryz.underlying39
 have k2 := Tryz.underlying45
 have g5 := zA d6
 have k3 := zA d7
 clear d6 d7
 have HB := zA (Below.refl w.heap.size w)
 unfold laws_toPackS.f at h
 have H := h
 clear h
 replace H := zC0 H
 obtain ⟨c2, H⟩ := H
 have g6 := eq_true c2
 have g7 := decide_eq_true c2
 clear c2
 replace H := zC0 H
 obtain ⟨c3, H⟩ := H
 have g8 := eq_true c3
 have g9 := decide_eq_true c3
 clear c3
 obtain ⟨d9, b5⟩ : ∃ y_ : List (S45), y_ = (List.replicate ((l0.length : Int) : Int).toNat z45) := ⟨_, rfl⟩
 replace H : (laws_toPackS.l0 k l0 d9 0) = some r := zY b5 H
 have e0 := zA b5
 clear b5
 have H' := zA H
 clear H
 go_enter Tryz.func28, Tryz.ntmps28
 go_wp2_with (first | ((with_reducible refine gate_dst (N := 7) rfl ?_); refine Kd.R_make k45 _ 45 rfl (N := 7) rfl 59 _ _ rfl (l0.length : Int) rfl rfl Tryz.underlying59 (.agg #[(.string ⟨#[]⟩), (.slice none 0 0), (.slice none 0 0), (.slice none 0 0)]) 88 info45 rfl (by decide) (by omega) z45 (ok := fun _ => True) (okp := fun _ => True) (k45_mkM _ _ _ z45 (Kd.R_nil _ _ _ _ _) (Kd.R_nil _ _ _ _ _) (Kd.R_nil _ _ _ _ _)) (fun _ hk => hk) trivial (zD) (Nat.le_trans (Nat.mul_le_mul_right _ (zD : (l0.length : Int).toNat ≤ 3198579280802)) (by omega)) (Below.refl _ _) (Nat.le_refl _) ?_; intro h0 w4 a7 hb hg_ hnew_; clear hg_ hnew_; (first | rw [← e0.out] at a7 | (simp only [Int.reduceToNat] at a7; rw [← e0.out] at a7)); have h1 := zA (Kd.R_lower a7 (below_size (zB))); replace HB := zA (below_step (zB) hb); clear hb a7))
 go_loopg [4] k (fun kq v4 w' => ∃ (a3 : List (S45)) (a0 : Int), v4 = .int .i64 a0 ∧ Aside0 (laws_toPackS.l0 kq l0 a3 a0 = some r) ∧ Aside0 (kq ≤ k) ∧ Aside0 (Kd.R k45 45 w' w.heap.size (fun _ => True) h0 a3) ∧ Aside0 (Below w.heap.size w w'))
 case atStart => exact ⟨(d9), (0), zS, H', ⟨Nat.le_refl _⟩, ⟨zR h1.out⟩, ⟨zB⟩⟩
 case round =>
  clear H'
  try clear c2
  try clear g6
  try clear g7
  try clear p2
  try clear c3
  try clear g8
  try clear g9
  obtain ⟨a3, a0, rfl, HA, e1, a1, HB⟩ := hrel
  cases gk with
  | zero => exact absurd HA.out (by simp [laws_toPackS.l0])
  | succ k1 =>
   have H := HA.out; clear HA; simp only [laws_toPackS.l0] at H; replace H := zI0 H
   rcases H with ⟨h2, H⟩ | ⟨h2, H⟩
   ·replace H := zD0 H; obtain ⟨k4, H⟩ := H; replace H := Option.bind_eq_some_iff.mp H; obtain ⟨⟨a5, b1, b2, b3⟩, e2, H⟩ := H
    try dsimp only at H
    have A8 := zA e2; clear e2; replace H := zD0 H; obtain ⟨k5, H⟩ := H; obtain ⟨b6, b7⟩ : ∃ y_ : List (S45), y_ = (a3.set (a0 : Int).toNat (⟨a5, b1, b2, b3⟩ : S45)) := ⟨_, rfl⟩; replace H : (laws_toPackS.l0 k1 l0 b6 (wrap64 (a0 + 1))) = some r := zY b7 H; have h3 := zA b7; clear b7; have H' := zA H; clear H; have b8 : 0 ≤ (a0 : Int) := zD; have b9 : a0 < (l0.length : Int) := zD; obtain ⟨k6, h4, h5, h6, h7, h8, h9, i0, e3, e4, e5, e6, e7, e8, e9, f4, f5, f6⟩ := at_T39 g5.out a0 b8 b9; cases i0; replace e3 := zx HB e3; replace e4 := zx HB e4; replace e5 := zx HB e5; replace e6 := zx HB e6; have i1 := zA e8; have i2 := zA e7; clear e8 e7; have i3 := zA f4; have i4 := zA e9; clear f4 e9; have i5 := zA f6; have i6 := zA f5; clear f6 f5; replace b8 := eq_true b8; replace b9 := eq_true b9
    go_wp2_with (first | ((with_reducible refine zq 18 ?_); refine zg (some 20) Tryz.func18 #[.agg #[.string ((rd_T39 l0 a0).f0), .slice h4 ((rd_T39 l0 a0).f1).length h5, .slice h6 ((rd_T39 l0 a0).f2).length h7, .slice h8 ((rd_T39 l0 a0).f3).length h9]] ?_; (with_reducible refine (laws_toPack.calls k1 ((rd_T39 l0 a0).f0) _ _ ((rd_T39 l0 a0).f1) _ _ ((rd_T39 l0 a0).f2) _ _ ((rd_T39 l0 a0).f3) a5 b1 b2 b3 _ ?s1 ?s2 ?s3 ?s4 ?s5 ?s6 A8.out).mono ?_); (case s1 => exact zC (Kd.C_below i1.out HB.out)); (case s2 => exact i2.out); (case s3 => exact zC (Kd.C_below i3.out HB.out)); (case s4 => exact i4.out); (case s5 => exact zC (Kd.C_below i5.out HB.out)); (case s6 => exact i6.out); rintro e a4 ⟨c1, c4, c5, rfl, c6, c7, c8, hb⟩; refine ⟨_, rfl, ?_⟩; replace a1 := zA (Kd.R_mono (Kd.R_told (Kd.R_told (Kd.R_told (Kd.R_old (zR a1.out) hb) (Kd.R_base c6)) (Kd.R_base c7)) (Kd.S_base c8)) (fun _ h_ => h_.1)); have c9 := zA (Kd.R_lower c6 (below_size (zB))); have d0 := zA (Kd.R_lower c7 (below_size (zB))); have d1 := zA (Kd.S_lower c8 (below_size (zB))); replace HB := zA (below_step (zB) hb); (try clear hb c6 c7 c8); have d2 : 0 ≤ (a0 : Int) := zD; have d3 : (a0 : Int) < ((a3.length : Int) : Int) := zD; obtain ⟨a2, f7, f8, f9, i7, k7, g0⟩ := Kd.R_form a1.out (by omega); (first | cases f8 | (injection f8 with ea_ en_ ec_; (first | subst ea_ | (injection ea_ with ea_; subst ea_)); subst ec_; clear en_)); have b4 := zA f9; have k8 := zA g0; clear f9 i7 g0; obtain ⟨k9, i8, g1, a8, a9⟩ := Kd.R_elem a1.out z45 (a0 : Int) d2 d3; obtain ⟨i9, j0, j1, rfl, l1, l2, l3⟩ := k45_openM g1; have l4 : a4.cell? ⟨a2, (a0 : Int).toNat * 4, none⟩ = some (.string ((rd_T45 a3 a0).f0)) := a8 0 _ rfl; have l5 : a4.cell? ⟨a2, (a0 : Int).toNat * 4 + 1, none⟩ = some (i9) := a8 1 _ rfl; have l6 : a4.cell? ⟨a2, (a0 : Int).toNat * 4 + 2, none⟩ = some (j0) := a8 2 _ rfl; have l7 : a4.cell? ⟨a2, (a0 : Int).toNat * 4 + 3, none⟩ = some (j1) := a8 3 _ rfl; have l8 : a4.frozen? ⟨a2, (a0 : Int).toNat * 4, none⟩ = false := a9 0; have l9 : a4.frozen? ⟨a2, (a0 : Int).toNat * 4 + 1, none⟩ = false := a9 1; have m0 : a4.frozen? ⟨a2, (a0 : Int).toNat * 4 + 2, none⟩ = false := a9 2; have m1 : a4.frozen? ⟨a2, (a0 : Int).toNat * 4 + 3, none⟩ = false := a9 3; clear i8 a8 a9; (try clear g1); replace d2 := eq_true d2; replace d3 := eq_true d3; have n_ := zA (Kd.R_mono (ok' := (fun k_ => some k_ ≠ (c1 : Value).ownBlock ∧ some k_ ≠ (c4 : Value).ownBlock ∧ some k_ ≠ (c5 : Value).ownBlock)) a1.out (fun k_ hk => ⟨hk.1.1.2, ⟨hk.1.2, hk.2⟩⟩)); clear a1; have a1 := n_; clear n_; have g2 := zA (show Kd.R k45 45 a4 w.heap.size (fun _ => True) (.slice (some ⟨a2, 0, none⟩) a3.length f7) a3 from (zR (Kd.R_mono a1.out (fun _ hk => trivial)))); obtain ⟨m2, g3, g4, a6, b0⟩ := Kd.R_elem g2.out z45 (a0 : Int) (zD) (by have h_ : (a0 : Int) < ((a3.length : Int) : Int) := zD; first | exact h_ | (have e_ := (Kd.R_reads' a1.out).1; omega) | simpa using h_); obtain ⟨m3, m4, m5, rfl, m6, m7, m8⟩ := k45_openM g4; have d4 := Kd.R_seg g2.out (a0 : Int) (zD) (by have h_ : (a0 : Int) < ((a3.length : Int) : Int) := zD; first | exact h_ | (have e_ := (Kd.R_reads' a1.out).1; omega) | simpa using h_) (seg := [.string a5, c1, c4, c5]) (j := 0) g3 a6 (show 4 ≤ 4 from by decide) (x' := (⟨a5, b1, b2, b3⟩ : S45)) (k45_mkM _ _ _ (⟨a5, b1, b2, b3⟩ : S45) (Kd.R_mono (Kd.R_apart' (c9.out) (Kd.R_typed a1.out) (by decide)) (fun k_ hk => ⟨trivial, fun e_ => (hk.2) (by rw [e_]; rfl)⟩)) (Kd.R_mono (Kd.R_apart' (d0.out) (Kd.R_typed a1.out) (by decide)) (fun k_ hk => ⟨trivial, fun e_ => (hk.2) (by rw [e_]; rfl)⟩)) (Kd.R_mono (Kd.R_apart' ((Kd.S_R d1.out)) (Kd.R_typed a1.out) (by decide)) (fun k_ hk => ⟨trivial, fun e_ => (hk.2) (by rw [e_]; rfl)⟩))) (fun _ hk => hk); have j2 := a6 0 _ rfl; (try simp only [show (k45).sz = 4 from rfl, Nat.mul_one, Nat.add_zero] at j2); have j3 := b0 0; (try simp only [show (k45).sz = 4 from rfl, Nat.mul_one, Nat.add_zero] at j3); have j4 := a6 1 _ rfl; (try simp only [show (k45).sz = 4 from rfl, Nat.mul_one, Nat.add_zero] at j4); have j5 := b0 1; (try simp only [show (k45).sz = 4 from rfl, Nat.mul_one, Nat.add_zero] at j5); have j6 := a6 2 _ rfl; (try simp only [show (k45).sz = 4 from rfl, Nat.mul_one, Nat.add_zero] at j6); have j7 := b0 2; (try simp only [show (k45).sz = 4 from rfl, Nat.mul_one, Nat.add_zero] at j7); have j8 := a6 3 _ rfl; (try simp only [show (k45).sz = 4 from rfl, Nat.mul_one, Nat.add_zero] at j8); have j9 := b0 3; (try simp only [show (k45).sz = 4 from rfl, Nat.mul_one, Nat.add_zero] at j9); clear g3 a6 b0; (try clear g4)) | ((with_reducible refine gate_store (t := 45) (p := 21) rfl ?_); refine store_event (t := 45) (p := 21) (v := ?vo_w13) (w1 := ((((a4.setCell ⟨a2, (a0 : Int).toNat * 4, none⟩ (.string a5)).setCell ⟨a2, (a0 : Int).toNat * 4 + 1, none⟩ (c1)).setCell ⟨a2, (a0 : Int).toNat * 4 + 2, none⟩ (c4)).setCell ⟨a2, (a0 : Int).toNat * 4 + 3, none⟩ (c5))) ?hg ?ho ?hn ?hr ?_; (case ho => rfl); (case hg => rfl); (case hn => rfl); (case hr => first | (go_simp; done) | (go_simp; rfl) | ((try (obtain ⟨_, _, e_⟩ := Kd.R_slice c9.out; subst e_)); (try (obtain ⟨_, _, e_⟩ := Kd.R_slice d0.out; subst e_)); (try (obtain ⟨_, _, e_⟩ := Kd.S_slice d1.out; subst e_)); first | (go_simp; done) | (go_simp; rfl))); intro d5 hw; have hg : a4.grownBy d5 (some a2) := (by rw [hw]; exact d4.2); have hp_ : Kd.R k45 45 d5 w.heap.size (fun _ => True) (.slice (some ⟨a2, 0, none⟩) a3.length f7) b6 := (by rw [hw, h3.out]; exact d4.1); clear d4; replace a1 := zA (hp_); replace HB := zA ((by rw [hw]; exact below_set (below_set (below_set (below_set (HB.out) b4.out) b4.out) b4.out) b4.out : Below w.heap.size w d5)); clear c9 d0 d1; clear hg hw hp_))
    go_roundg k1
    case measure => have := e1.out; omega
    case rel => exact ⟨(b6), (wrap64 (a0 + 1)), zS, H', ⟨by have := e1.out; omega⟩, ⟨zR a1.out⟩, ⟨zB⟩⟩
   obtain rfl := zm H
   go_wp2
   go_ret
   exact ⟨_, zE, zR a1.out, zB⟩
/-! ### impl_inRange: function 113 -/
def impl_inRange.f (a0 a1 a2 : Int) : Option (Bool) := if a0 ≥ a1 then (some (decide (a0 ≤ a2))) else (some false)
theorem impl_inRange.calls (a0 a1 a2 : Int) (r : Bool) (w : World) (h : impl_inRange.f a0 a1 a2 = some r) :
  Calls Tryz.prog 113 #[.int .i64 a0, .int .i64 a1, .int .i64 a2] w fun e w' => e = .returned (.bool r) ∧ Drawn0 w w' := by
 unfold impl_inRange.f at h
 have H := h
 clear h
 replace H := zI1 H
 rcases H with ⟨c4, H⟩ | ⟨c4, H⟩
 ·have a3 : decide (a1 ≤ a0) = true := decide_eq_true c4; clear c4; obtain rfl := zm H
  go_enter Tryz.func113, Tryz.ntmps113
  go_wp2
  go_ret
  exact ⟨by first | rfl | (simp; done) | (simp [*]; done) | (simp; rw [Bool.eq_iff_iff]; simp; done), by repeat (first | exact Drawn0.refl _ | apply Drawn0.step)⟩
 have a3 : decide (a1 ≤ a0) = false := decide_eq_false c4
 clear c4
 obtain rfl := zm H
 go_enter Tryz.func113, Tryz.ntmps113
 go_wp2
 go_ret
 exact ⟨by first | rfl | (simp; done) | (simp [*]; done) | (simp; rw [Bool.eq_iff_iff]; simp; done), by repeat (first | exact Drawn0.refl _ | apply Drawn0.step)⟩
/-! ### impl_isSmall: function 114 -/
def impl_isSmall.f (a0 : Int) : Option (Bool) := if a0 ≥ 97 then (some (decide (a0 ≤ 122))) else (some false)
theorem impl_isSmall.calls (a0 : Int) (r : Bool) (w : World) (h : impl_isSmall.f a0 = some r) :
  Calls Tryz.prog 114 #[.int .u8 a0] w fun e w' => e = .returned (.bool r) ∧ Drawn0 w w' := by
 unfold impl_isSmall.f at h
 have H := h
 clear h
 replace H := zI1 H
 rcases H with ⟨c2, H⟩ | ⟨c2, H⟩
 ·have a1 : decide (97 ≤ a0) = true := decide_eq_true c2; clear c2; obtain rfl := zm H
  go_enter Tryz.func114, Tryz.ntmps114
  go_wp2
  go_ret
  exact ⟨by first | rfl | (simp; done) | (simp [*]; done) | (simp; rw [Bool.eq_iff_iff]; simp; done), by repeat (first | exact Drawn0.refl _ | apply Drawn0.step)⟩
 have a1 : decide (97 ≤ a0) = false := decide_eq_false c2
 clear c2
 obtain rfl := zm H
 go_enter Tryz.func114, Tryz.ntmps114
 go_wp2
 go_ret
 exact ⟨by first | rfl | (simp; done) | (simp [*]; done) | (simp; rw [Bool.eq_iff_iff]; simp; done), by repeat (first | exact Drawn0.refl _ | apply Drawn0.step)⟩
/-! ### impl_isFigure: function 115 -/
def impl_isFigure.f (a0 : Int) : Option (Bool) := if a0 ≥ 48 then (some (decide (a0 ≤ 57))) else (some false)
theorem impl_isFigure.calls (a0 : Int) (r : Bool) (w : World) (h : impl_isFigure.f a0 = some r) :
  Calls Tryz.prog 115 #[.int .u8 a0] w fun e w' => e = .returned (.bool r) ∧ Drawn0 w w' := by
 unfold impl_isFigure.f at h
 have H := h
 clear h
 replace H := zI1 H
 rcases H with ⟨c2, H⟩ | ⟨c2, H⟩
 ·have a1 : decide (48 ≤ a0) = true := decide_eq_true c2; clear c2; obtain rfl := zm H
  go_enter Tryz.func115, Tryz.ntmps115
  go_wp2
  go_ret
  exact ⟨by first | rfl | (simp; done) | (simp [*]; done) | (simp; rw [Bool.eq_iff_iff]; simp; done), by repeat (first | exact Drawn0.refl _ | apply Drawn0.step)⟩
 have a1 : decide (48 ≤ a0) = false := decide_eq_false c2
 clear c2
 obtain rfl := zm H
 go_enter Tryz.func115, Tryz.ntmps115
 go_wp2
 go_ret
 exact ⟨by first | rfl | (simp; done) | (simp [*]; done) | (simp; rw [Bool.eq_iff_iff]; simp; done), by repeat (first | exact Drawn0.refl _ | apply Drawn0.step)⟩
/-! ### impl_NameOk: function 61 -/
mutual
def impl_NameOk.l0 : Nat → ByteArray → Int → Option (Bool)
 | 0, _, _ => none
 | k + 1, x0, x3 => if x3 < (x0.size : Int) then (impl_NameOk.j1 k x0 x3) else ((impl_inRange.f (x0.size : Int) 1 10).bind fun a0 => (some a0))
def impl_NameOk.j1 : Nat → ByteArray → Int → Option (Bool)
 | 0, _, _ => none
 | k + 1, x0, x3 => if 0 ≤ x3 then (if x3 < (x0.size : Int) then ((impl_isSmall.f (bt x0 x3)).bind fun a1 => (if a1 = true then (impl_NameOk.l0 k x0 (wrap64 (x3 + 1))) else (if x3 = 0 then (some false) else ((impl_isFigure.f (bt x0 x3)).bind fun a2 => (if a2 = true then (impl_NameOk.l0 k x0 (wrap64 (x3 + 1))) else (if (bt x0 x3) = 45 then (impl_NameOk.l0 k x0 (wrap64 (x3 + 1))) else (some false))))))) else (none)) else (none)
end
def impl_NameOk.f (k : Nat) (a0 : ByteArray) : Option (Bool) := impl_NameOk.l0 k a0 0
theorem impl_NameOk.calls (k : Nat) (a0 : ByteArray) (r : Bool) (w : World) (h : impl_NameOk.f k a0 = some r) :
  Calls Tryz.prog 61 #[.string a0] w fun e w' => e = .returned (.bool r) ∧ Drawn0 w w' := by
 unfold impl_NameOk.f at h
 have H := h
 clear h
 have H' := zA H
 clear H
 go_enter Tryz.func61, Tryz.ntmps61
 go_wp2
 go_loopg [3] k (fun kq v3 w' => ∃ (a1 : Int), v3 = .int .i64 a1 ∧ Aside0 (impl_NameOk.l0 kq a0 a1 = some r) ∧ Aside0 (kq ≤ k) ∧ Drawn0 w w')
 case atStart => exact ⟨(0), zS, H', ⟨Nat.le_refl _⟩, by repeat (first | exact Drawn0.refl _ | apply Drawn0.step)⟩
 case round =>
  clear H'; obtain ⟨a1, rfl, HA, a4, ⟨m1, rfl⟩⟩ := hrel
  cases gk with
  | zero => exact absurd HA.out (by simp [impl_NameOk.l0])
  | succ k1 =>
   have H := HA.out; clear HA; simp only [impl_NameOk.l0] at H; have b2 := zA H; clear H
   go_upto_if 7 with (fail)
   go_cut [] (fun wc => ∃ (kq : Nat), Aside0 (impl_NameOk.j1 kq a0 a1 = some r) ∧ Aside0 (kq ≤ k1) ∧ Drawn0 w wc)
   case first =>
    have H := b2.out; clear b2; replace H := zI0 H
    rcases H with ⟨a5, H⟩ | ⟨a5, H⟩
    ·(first | rw [a5] | (simp only [i64_w, i32_w]; rw [a5]) | skip)
     have H' := zA H; clear H
     go_wp2
     go_meet
     case rel => exact ⟨_, (by first | exact H' | (subst_vars; exact H')), ⟨by have := a4.out; first | omega | exact Nat.le_refl _⟩, by repeat (first | exact Drawn0.refl _ | apply Drawn0.step)⟩
    (first | rw [a5] | (simp only [i64_w, i32_w]; rw [a5]) | skip)
    replace H := Option.bind_eq_some_iff.mp H; obtain ⟨b9, b5, H⟩ := H
    try dsimp only at H
    have A4 := zA b5; clear b5; obtain rfl := zm H
    go_wp2_with (first | ((with_reducible refine zq 113 ?_); refine zg (some 34) Tryz.func113 #[.int .i64 (a0.size : Int), .int .i64 1, .int .i64 10] ?_; (with_reducible refine (impl_inRange.calls (a0.size : Int) 1 10 b9 _ A4.out).mono ?_); rintro e w' ⟨rfl, ⟨nd, rfl⟩⟩; refine ⟨_, rfl, ?_⟩))
    go_ret
    exact ⟨by first | rfl | (simp; done) | (simp [*]; done) | (simp; rw [Bool.eq_iff_iff]; simp; done), by repeat (first | exact Drawn0.refl _ | apply Drawn0.step)⟩
   case rest =>
    clear b2
    try clear c1
    try clear p2
    try clear c3
    try clear a5
    obtain ⟨kq, HA, a6, ⟨c7, rfl⟩⟩ := hcut
    cases kq with
    | zero => exact absurd HA.out (by simp [impl_NameOk.j1])
    | succ b3 =>
     have H := HA.out; clear HA; simp only [impl_NameOk.j1] at H; replace H := zD0 H; obtain ⟨c8, H⟩ := H; replace H := zD0 H; obtain ⟨c9, H⟩ := H; replace H := Option.bind_eq_some_iff.mp H; obtain ⟨d0, b6, H⟩ := H
     try dsimp only at H
     have A8 := zA b6; clear b6; replace H := zB0 H
     rcases H with ⟨rfl, H⟩ | ⟨rfl, H⟩
     ·have H' := zA H; clear H; have p7 : 0 ≤ (a1 : Int) := zD; have q7 : a1 < (a0.size : Int) := zD; have b1 := bt_at a0 a1; replace p7 := eq_true p7; replace q7 := eq_true q7
      go_wp2_with (first | ((with_reducible refine zq 114 ?_); refine zg (some 13) Tryz.func114 #[.int .u8 (bt a0 a1)] ?_; (with_reducible refine (impl_isSmall.calls (bt a0 a1) true _ A8.out).mono ?_); rintro e w' ⟨rfl, ⟨nd, rfl⟩⟩; refine ⟨_, rfl, ?_⟩))
      go_roundg b3
      case measure => have := a4.out; have := a6.out; omega
      case rel => exact ⟨(wrap64 (a1 + 1)), zS, H', ⟨by have := a4.out; have := a6.out; omega⟩, by repeat (first | exact Drawn0.refl _ | apply Drawn0.step)⟩
     replace H := zI1 H
     rcases H with ⟨a7, H⟩ | ⟨a7, H⟩
     ·have c0 := beq_iff_eq.mpr a7; have c2 := bne_eq_false_iff_eq.mpr a7; clear a7; obtain rfl := zm H; have p7 : 0 ≤ (a1 : Int) := zD; have q7 : a1 < (a0.size : Int) := zD; have b1 := bt_at a0 a1; replace p7 := eq_true p7; replace q7 := eq_true q7
      go_wp2_with (first | ((with_reducible refine zq 114 ?_); refine zg (some 13) Tryz.func114 #[.int .u8 (bt a0 a1)] ?_; (with_reducible refine (impl_isSmall.calls (bt a0 a1) false _ A8.out).mono ?_); rintro e w' ⟨rfl, ⟨nd, rfl⟩⟩; refine ⟨_, rfl, ?_⟩))
      go_ret
      exact ⟨by first | rfl | (simp; done) | (simp [*]; done) | (simp; rw [Bool.eq_iff_iff]; simp; done), by repeat (first | exact Drawn0.refl _ | apply Drawn0.step)⟩
     have c0 := beq_eq_false_iff_ne.mpr a7; have c2 := bne_iff_ne.mpr a7; replace H := Option.bind_eq_some_iff.mp H; obtain ⟨d1, b7, H⟩ := H
     try dsimp only at H
     have b4 := zA b7; clear b7; replace H := zB0 H
     rcases H with ⟨rfl, H⟩ | ⟨rfl, H⟩
     ·have H' := zA H; clear H; have p7 : 0 ≤ (a1 : Int) := zD; have q7 : a1 < (a0.size : Int) := zD; have b1 := bt_at a0 a1; replace p7 := eq_true p7; replace q7 := eq_true q7
      go_wp2_with (first | ((with_reducible refine zq 114 ?_); refine zg (some 13) Tryz.func114 #[.int .u8 (bt a0 a1)] ?_; (with_reducible refine (impl_isSmall.calls (bt a0 a1) false _ A8.out).mono ?_); rintro e w' ⟨rfl, ⟨nd, rfl⟩⟩; refine ⟨_, rfl, ?_⟩; have a2 : 0 ≤ (a1 : Int) := zD; have a3 : a1 < (a0.size : Int) := zD; have b8 := bt_at a0 a1; replace a2 := eq_true a2; replace a3 := eq_true a3) | (go_at_call 115; (with_reducible refine (impl_isFigure.calls (bt a0 a1) true _ b4.out).mono ?_); rintro e w' ⟨rfl, ⟨nd, rfl⟩⟩))
      go_roundg b3
      case measure => have := a4.out; have := a6.out; omega
      case rel => exact ⟨(wrap64 (a1 + 1)), zS, H', ⟨by have := a4.out; have := a6.out; omega⟩, by repeat (first | exact Drawn0.refl _ | apply Drawn0.step)⟩
     replace H := zI1 H
     rcases H with ⟨a8, H⟩ | ⟨a8, H⟩
     ·have c4 := beq_iff_eq.mpr a8; have c5 := bne_eq_false_iff_eq.mpr a8; clear a8; have H' := zA H; clear H; have p7 : 0 ≤ (a1 : Int) := zD; have q7 : a1 < (a0.size : Int) := zD; have b1 := bt_at a0 a1; replace p7 := eq_true p7; replace q7 := eq_true q7
      go_wp2_with (first | ((with_reducible refine zq 114 ?_); refine zg (some 13) Tryz.func114 #[.int .u8 (bt a0 a1)] ?_; (with_reducible refine (impl_isSmall.calls (bt a0 a1) false _ A8.out).mono ?_); rintro e w' ⟨rfl, ⟨nd, rfl⟩⟩; refine ⟨_, rfl, ?_⟩; have a2 : 0 ≤ (a1 : Int) := zD; have a3 : a1 < (a0.size : Int) := zD; have b8 := bt_at a0 a1; replace a2 := eq_true a2; replace a3 := eq_true a3) | (go_at_call 115; (with_reducible refine (impl_isFigure.calls (bt a0 a1) false _ b4.out).mono ?_); rintro e w' ⟨rfl, ⟨nd, rfl⟩⟩; have a9 : 0 ≤ (a1 : Int) := zD; have b0 : a1 < (a0.size : Int) := zD; have c6 := bt_at a0 a1; replace a9 := eq_true a9; replace b0 := eq_true b0))
      go_roundg b3
      case measure => have := a4.out; have := a6.out; omega
      case rel => exact ⟨(wrap64 (a1 + 1)), zS, H', ⟨by have := a4.out; have := a6.out; omega⟩, by repeat (first | exact Drawn0.refl _ | apply Drawn0.step)⟩
     have c4 := beq_eq_false_iff_ne.mpr a8; have c5 := bne_iff_ne.mpr a8; obtain rfl := zm H; have p7 : 0 ≤ (a1 : Int) := zD; have q7 : a1 < (a0.size : Int) := zD; have b1 := bt_at a0 a1; replace p7 := eq_true p7; replace q7 := eq_true q7
     go_wp2_with (first | ((with_reducible refine zq 114 ?_); refine zg (some 13) Tryz.func114 #[.int .u8 (bt a0 a1)] ?_; (with_reducible refine (impl_isSmall.calls (bt a0 a1) false _ A8.out).mono ?_); rintro e w' ⟨rfl, ⟨nd, rfl⟩⟩; refine ⟨_, rfl, ?_⟩; have a2 : 0 ≤ (a1 : Int) := zD; have a3 : a1 < (a0.size : Int) := zD; have b8 := bt_at a0 a1; replace a2 := eq_true a2; replace a3 := eq_true a3) | (go_at_call 115; (with_reducible refine (impl_isFigure.calls (bt a0 a1) false _ b4.out).mono ?_); rintro e w' ⟨rfl, ⟨nd, rfl⟩⟩; have a9 : 0 ≤ (a1 : Int) := zD; have b0 : a1 < (a0.size : Int) := zD; have c6 := bt_at a0 a1; replace a9 := eq_true a9; replace b0 := eq_true b0))
     go_ret
     exact ⟨by first | rfl | (simp; done) | (simp [*]; done) | (simp; rw [Bool.eq_iff_iff]; simp; done), by repeat (first | exact Drawn0.refl _ | apply Drawn0.step)⟩
/-! ### impl_isPlain: function 149 -/
def impl_isPlain.f (a0 : Int) : Option (Bool) := if a0 ≥ 32 then (some (decide (a0 ≤ 126))) else (some false)
theorem impl_isPlain.calls (a0 : Int) (r : Bool) (w : World) (h : impl_isPlain.f a0 = some r) :
  Calls Tryz.prog 149 #[.int .u8 a0] w fun e w' => e = .returned (.bool r) ∧ Drawn0 w w' := by
 unfold impl_isPlain.f at h
 have H := h
 clear h
 replace H := zI1 H
 rcases H with ⟨c2, H⟩ | ⟨c2, H⟩
 ·have a1 : decide (32 ≤ a0) = true := decide_eq_true c2; clear c2; obtain rfl := zm H
  go_enter Tryz.func149, Tryz.ntmps149
  go_wp2
  go_ret
  exact ⟨by first | rfl | (simp; done) | (simp [*]; done) | (simp; rw [Bool.eq_iff_iff]; simp; done), by repeat (first | exact Drawn0.refl _ | apply Drawn0.step)⟩
 have a1 : decide (32 ≤ a0) = false := decide_eq_false c2
 clear c2
 obtain rfl := zm H
 go_enter Tryz.func149, Tryz.ntmps149
 go_wp2
 go_ret
 exact ⟨by first | rfl | (simp; done) | (simp [*]; done) | (simp; rw [Bool.eq_iff_iff]; simp; done), by repeat (first | exact Drawn0.refl _ | apply Drawn0.step)⟩
/-! ### impl_PlainOk: function 112 -/
def impl_PlainOk.l0 : Nat → ByteArray → Int → Int → Option (Bool)
 | 0, _, _, _ => none
 | k + 1, x0, x1, x5 => if x5 < (x0.size : Int) then (if 0 ≤ x5 then ((impl_isPlain.f (bt x0 x5)).bind fun a0 => (if a0 = true then (impl_PlainOk.l0 k x0 x1 (wrap64 (x5 + 1))) else (some false))) else (none)) else (some (decide ((x0.size : Int) ≤ x1)))
def impl_PlainOk.f (k : Nat) (a0 : ByteArray) (a1 : Int) : Option (Bool) := impl_PlainOk.l0 k a0 a1 0
theorem impl_PlainOk.calls (k : Nat) (a0 : ByteArray) (a1 : Int) (r : Bool) (w : World) (h : impl_PlainOk.f k a0 a1 = some r) :
  Calls Tryz.prog 112 #[.string a0, .int .i64 a1] w fun e w' => e = .returned (.bool r) ∧ Drawn0 w w' := by
 unfold impl_PlainOk.f at h
 have H := h
 clear h
 have H' := zA H
 clear H
 go_enter Tryz.func112, Tryz.ntmps112
 go_wp2
 go_loopg [5] k (fun kq v5 w' => ∃ (a2 : Int), v5 = .int .i64 a2 ∧ Aside0 (impl_PlainOk.l0 kq a0 a1 a2 = some r) ∧ Aside0 (kq ≤ k) ∧ Drawn0 w w')
 case atStart => exact ⟨(0), zS, H', ⟨Nat.le_refl _⟩, by repeat (first | exact Drawn0.refl _ | apply Drawn0.step)⟩
 case round =>
  clear H'
  try clear c1
  try clear p2
  obtain ⟨a2, rfl, HA, a3, ⟨m1, rfl⟩⟩ := hrel
  cases gk with
  | zero => exact absurd HA.out (by simp [impl_PlainOk.l0])
  | succ k1 =>
   have H := HA.out; clear HA; simp only [impl_PlainOk.l0] at H; replace H := zI0 H
   rcases H with ⟨a5, H⟩ | ⟨a5, H⟩
   ·replace H := zD0 H; obtain ⟨a7, H⟩ := H; replace H := Option.bind_eq_some_iff.mp H; obtain ⟨a8, a4, H⟩ := H
    try dsimp only at H
    have A6 := zA a4; clear a4; replace H := zB0 H
    rcases H with ⟨rfl, H⟩ | ⟨rfl, H⟩
    ·have H' := zA H; clear H; have p5 : 0 ≤ (a2 : Int) := zD; have q5 : a2 < (a0.size : Int) := zD; have a6 := bt_at a0 a2; replace p5 := eq_true p5; replace q5 := eq_true q5
     go_wp2_with (first | ((with_reducible refine zq 149 ?_); refine zg (some 15) Tryz.func149 #[.int .u8 (bt a0 a2)] ?_; (with_reducible refine (impl_isPlain.calls (bt a0 a2) true _ A6.out).mono ?_); rintro e w' ⟨rfl, ⟨nd, rfl⟩⟩; refine ⟨_, rfl, ?_⟩))
     go_roundg k1
     case measure => have := a3.out; omega
     case rel => exact ⟨(wrap64 (a2 + 1)), zS, H', ⟨by have := a3.out; omega⟩, by repeat (first | exact Drawn0.refl _ | apply Drawn0.step)⟩
    obtain rfl := zm H; have p5 : 0 ≤ (a2 : Int) := zD; have q5 : a2 < (a0.size : Int) := zD; have a6 := bt_at a0 a2; replace p5 := eq_true p5; replace q5 := eq_true q5
    go_wp2_with (first | ((with_reducible refine zq 149 ?_); refine zg (some 15) Tryz.func149 #[.int .u8 (bt a0 a2)] ?_; (with_reducible refine (impl_isPlain.calls (bt a0 a2) false _ A6.out).mono ?_); rintro e w' ⟨rfl, ⟨nd, rfl⟩⟩; refine ⟨_, rfl, ?_⟩))
    go_ret
    exact ⟨by first | rfl | (simp; done) | (simp [*]; done) | (simp; rw [Bool.eq_iff_iff]; simp; done), by repeat (first | exact Drawn0.refl _ | apply Drawn0.step)⟩
   obtain rfl := zm H
   go_wp2
   go_ret
   exact ⟨by first | rfl | (simp; done) | (simp [*]; done) | (simp; rw [Bool.eq_iff_iff]; simp; done), by repeat (first | exact Drawn0.refl _ | apply Drawn0.step)⟩
end Go.Proofs.YtpcdhoeoefoeoaaGreatDoor.PGE
