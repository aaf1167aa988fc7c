/- The walks of the functions that these laws reach, and what each comes to: printed by this session's program. -/
import Derived.Test.YtpcdhoeoefoeoaaGreatDoorZGCPGCx0
import Derived.Test.YtpcdhoeoefoeoaaGreatDoorZGCPGCx10
import Derived.Test.YtpcdhoeoefoeoaaGreatDoorZGCSays
import Derived.Test.YtpcdhoeoefoeoaaGreatDoorZGCRegs
namespace Go.Proofs.YtpcdhoeoefoeoaaGreatDoor.PGC
open Go.RowKit YtpcdhoeoefoeoaaGreatDoorW.PrintWords YtpcdhoeoefoeoaaGreatDoorW.PrintLast YtpcdhoeoefoeoaaGreatDoorW.PrintMore
attribute [local go_sem high] Mine.str_gtr Mine.str_leq Mine.str_geq
attribute [local go_sem] max2_int min2_int max_two min_two max_three min_three max_four min_four   -- for this text's walks alone
set_option linter.unusedVariables false
set_option maxHeartbeats 8000000
set_option maxRecDepth 100000
set_option linter.unusedSimpArgs false
/-! ### spec_l7Needs: function 56 -/
def spec_l7Needs.l0 : Nat → List (S30) → Int → Option (Bool)
 | 0, _, _ => none
 | k + 1, x0, x3 => if x3 < (x0.length : Int) then (if 0 ≤ x3 then ((spec_l7Need.f k ((rd_T30 x0 x3).f0) ((rd_T30 x0 x3).f1)).bind fun a0 => (if a0 = true then (if x3 > 0 then (if 0 ≤ (wrap64 (x3 - 1)) then (if (wrap64 (x3 - 1)) < (x0.length : Int) then (if ((Op.bytesLess (((rd_T30 x0 (wrap64 (x3 - 1))).f0).toList) (((rd_T30 x0 x3).f0).toList)) = true) then (spec_l7Needs.l0 k x0 (wrap64 (x3 + 1))) else (some false)) else (none)) else (none)) else (spec_l7Needs.l0 k x0 (wrap64 (x3 + 1)))) else (some false))) else (none)) else (some (decide ((x0.length : Int) ≤ 4)))
def spec_l7Needs.f (k : Nat) (l0 : List (S30)) : Option (Bool) := spec_l7Needs.l0 k l0 0
def spec_l7Needs.T4 : Bool × List (List Nat × List Nat) := (true, [([], []), ([], []), ([0, 1], [0, 1]), ([2], [2]), ([3], [3]), ([4], [4]), ([5, 4], [5]), ([6], [6]), ([7, 6], [6, 7]), ([8, 6, 6], [6, 8]), ([9], [9]), ([9], [9]), ([11, 9], [9, 11]), ([10, 12, 9], [9, 10, 12]), ([13, 9], [9, 13]), ([14, 9], [9, 14]), ([9], [9]), ([9], [9]), ([16, 17, 9], [9, 16, 17]), ([18, 9], [9, 18]), ([19, 9], [9, 19]), ([15, 20, 9], [9, 15, 20]), ([9, 21, 6], [6, 9, 21]), ([6, 22], [6, 22])])
def spec_l7Needs.B4 : List Nat := [0, 0, 3, 7, 15, 31, 63, 127, 255, 511, 1023, 1023, 3071, 8191, 16383, 32767, 1023, 1023, 197631, 459775, 984063, 2097151, 4194303, 8388607]
theorem spec_l7Needs.tab4 : rtab .any (opsOf Tryz.f56 4) = spec_l7Needs.T4 := by kernel_rfl
theorem spec_l7Needs.bits4 : waitsOk spec_l7Needs.T4.2 spec_l7Needs.B4 = true := by kernel_rfl
theorem spec_l7Needs.calls (k : Nat) (A0 : Option Addr) (c0 : Nat) (l0 : List (S30)) (r : Bool) (w : World) (d2 : Kd.C k30 w A0 l0.length l0) (d3 : l0.length ≤ c0) (h : spec_l7Needs.f k l0 = some r) :
  Calls Tryz.prog 56 #[.slice A0 l0.length c0] w fun e w' => e = .returned (.bool r) ∧ Below w.heap.size w w' := by
 have d7 := Tryz.underlying30
 have b7 := Aside0.mk d2
 have d8 := Aside0.mk d3
 clear d2 d3
 have HB := zA (Below.refl w.heap.size w)
 unfold spec_l7Needs.f at h
 have H := h
 clear h
 have H' := Aside0.mk H
 clear H
 go_enter Tryz.func56, Tryz.ntmps56
 go_wp2
 go_loopg [3] k (fun kq v3 w' => ∃ (a0 : Int), v3 = .int .i64 a0 ∧ Aside0 (spec_l7Needs.l0 kq l0 a0 = some r) ∧ Aside0 (kq ≤ k) ∧ Aside0 (Below w.heap.size w w'))
 case atStart => exact ⟨(0), zS, H', ⟨Nat.le_refl _⟩, ⟨zB⟩⟩
 case round =>
  clear H'
  obtain ⟨a0, rfl, HA, c7, HB⟩ := hrel
  cases gk with
  | zero => exact absurd HA.out (by simp [spec_l7Needs.l0])
  | succ k1 =>
   have H := HA.out
   clear HA
   simp only [spec_l7Needs.l0] at H
   replace H := zI0 H
   rcases H with ⟨d4, H⟩ | ⟨d4, H⟩
   ·replace H := zD0 H
    obtain ⟨d9, H⟩ := H
    replace H := zj H
    obtain ⟨e0, A4, H⟩ := H
    try dsimp only at H
    replace H := zB0 H
    rcases H with ⟨rfl, H⟩ | ⟨rfl, H⟩
    ·replace H := zI1 H
     rcases H with ⟨c6, H⟩ | ⟨c6, H⟩
     ·have d5 : decide (0 < a0) = true := decide_eq_true c6
      clear c6
      obtain ⟨a2, c4⟩ : ∃ j_ : Int, (wrap64 (a0 - 1)) = j_ := ⟨_, rfl⟩
      replace H : (if 0 ≤ (a2) then (if (a2) < (l0.length : Int) then (if ((Op.bytesLess (((rd_T30 l0 (a2)).f0).toList) (((rd_T30 l0 a0).f0).toList)) = true) then (spec_l7Needs.l0 k1 l0 (wrap64 (a0 + 1))) else (some false)) else (none)) else (none)) = some r := by first | (rw [c4] at H; exact H) | (simp only [c4] at H ⊢; exact H)
      (try rw [c4] at A4)
      have hji7w : (IntKind.i64.wrap (a0 - 1)) = a2 := (i64_w _).trans c4
      replace H := zD0 H
      obtain ⟨e1, H⟩ := H
      replace H := zD0 H
      obtain ⟨e2, H⟩ := H
      replace H := zI1 H
      rcases H with ⟨c5, H⟩ | ⟨c5, H⟩
      ·have d6 : (Op.bytesLess (((rd_T30 l0 (a2)).f0).toList) (((rd_T30 l0 a0).f0).toList)) = true := c5
       clear c5
       have H' := Aside0.mk H
       clear H
       try go_wp2
       replace HB := zA (below_drew1 HB.out)
       have a7 : 0 ≤ (a0 : Int) := zD
       have a8 : a0 < (l0.length : Int) := zD
       obtain ⟨a1, b8, a3, a4⟩ := at_T30 b7.out a0 a7 a8
       have a5 := a4
       have a6 := a3
       cases b8
       replace a3 := zx HB a3
       replace a4 := zx HB a4
       replace a7 := eq_true a7
       replace a8 := eq_true a8
       have b9 : 0 ≤ ((a2) : Int) := zD
       have c1 : (a2) < (l0.length : Int) := zD
       obtain ⟨c8, c9, a9, b0⟩ := at_T30 b7.out (a2) b9 c1
       have b1 := b0
       have b2 := a9
       obtain rfl : a1 = c8 := (by injection c9)
       replace a9 := zx HB a9
       replace b0 := zx HB b0
       replace b9 := eq_true b9
       replace c1 := eq_true c1
       have c2 : 0 ≤ (a0 : Int) := zD
       have c3 : a0 < (l0.length : Int) := zD
       obtain ⟨d0, d1, b3, b4⟩ := at_T30 b7.out a0 c2 c3
       have b5 := b4
       have b6 := b3
       obtain rfl : a1 = d0 := (by injection d1)
       replace b3 := zx HB b3
       replace b4 := zx HB b4
       replace c2 := eq_true c2
       replace c3 := eq_true c3
       refine start_ (n := 24) (S := fun w' => w'.cell? (a1.add ((a0).toNat * 2)) = some (.string ((rd_T30 l0 a0).f0)) ∧ w'.cell? ⟨(a1.add ((a0).toNat * 2)).block, (a1.add ((a0).toNat * 2)).off + 1, none⟩ = some (.string ((rd_T30 l0 a0).f1)) ∧ w'.cell? (a1.add (((a2)).toNat * 2)) = some (.string ((rd_T30 l0 (a2)).f0)) ∧ w'.cell? ⟨(a1.add (((a2)).toNat * 2)).block, (a1.add (((a2)).toNat * 2)).off + 1, none⟩ = some (.string ((rd_T30 l0 (a2)).f1)) ∧ w'.cell? (a1.add ((a0).toNat * 2)) = some (.string ((rd_T30 l0 a0).f0)) ∧ w'.cell? ⟨(a1.add ((a0).toNat * 2)).block, (a1.add ((a0).toNat * 2)).off + 1, none⟩ = some (.string ((rd_T30 l0 a0).f1))) (ds := []) (Array.replicate 24 false) (by kernel_rfl) rfl rfl ⟨((HB.out.cell (World.block_lt_of_cell? w _ a6)).trans a6), ((HB.out.cell (World.block_lt_of_cell? w _ a5)).trans a5), ((HB.out.cell (World.block_lt_of_cell? w _ b2)).trans b2), ((HB.out.cell (World.block_lt_of_cell? w _ b1)).trans b1), ((HB.out.cell (World.block_lt_of_cell? w _ b6)).trans b6), ((HB.out.cell (World.block_lt_of_cell? w _ b5)).trans b5)⟩ (fun hHeld => ?_); refine with_tabW spec_l7Needs.tab4 spec_l7Needs.bits4 (fun HT_ HW_ => ?_)
       generalize wr.drew = e3 at HB a3 a4 a9 b0 b3 b4 hHeld ⊢
       refine zp 0 10 ?_
       refine zp 1 11 ?_
       refine zp 2 12 ?_
       refine zt 3 13 ?_
       refine zo 4 (some 14) fun K hK => ?_
       refine goes_ Tryz.func109 (by kernel_rfl) rfl #[.agg #[.string ((rd_T30 l0 a0).f0), .string ((rd_T30 l0 a0).f1)]] (by rfl) rfl rfl zM ?_
       with_reducible refine (spec_l7Need.calls k1 ((rd_T30 l0 a0).f0) ((rd_T30 l0 a0).f1) true _ A4.out).mono ?_
       rintro e e4 ⟨rfl, hb⟩
       refine ⟨_, rfl, ?_⟩
       replace HB := zA (below_step (zB) hb)
       (try clear hb)
       refine hK.out _ _ ⟨((HB.out.cell (World.block_lt_of_cell? w _ a6)).trans a6), ((HB.out.cell (World.block_lt_of_cell? w _ a5)).trans a5), ((HB.out.cell (World.block_lt_of_cell? w _ b2)).trans b2), ((HB.out.cell (World.block_lt_of_cell? w _ b1)).trans b1), ((HB.out.cell (World.block_lt_of_cell? w _ b6)).trans b6), ((HB.out.cell (World.block_lt_of_cell? w _ b5)).trans b5)⟩ (fun hHeld => ?_)
       clear hK K
       refine zn ?_
       refine zp 5 15 ?_
       refine zp 6 16 ?_
       refine zp 7 17 ?_
       refine zp 8 18 ?_
       refine zp 9 19 ?_
       refine zp 10 20 ?_
       refine zp 11 21 ?_
       refine zp 12 22 ?_
       refine zp 13 23 ?_
       refine zp 14 24 ?_
       refine zp 16 26 ?_
       refine zp 17 27 ?_
       refine zp 18 28 ?_
       refine zp 19 29 ?_
       refine zt 15 25 ?_
       refine zt 20 30 ?_
       refine zp 21 31 ?_
       refine zp 22 32 ?_
       refine zp 23 33 ?_
       refine done_ (done_of HT_.out (by kernel_rfl)) ?_
       try go_wp2
       go_roundg k1
       case measure => have := c7.out; omega
       case rel => exact ⟨(wrap64 (a0 + 1)), zS, H', ⟨by have := c7.out; omega⟩, ⟨zB⟩⟩
      ·have d6 : (Op.bytesLess (((rd_T30 l0 (a2)).f0).toList) (((rd_T30 l0 a0).f0).toList)) = false := by simpa using c5
       clear c5
       obtain rfl := Option.some.inj H
       try go_wp2
       replace HB := zA (below_drew1 HB.out)
       have a7 : 0 ≤ (a0 : Int) := zD
       have a8 : a0 < (l0.length : Int) := zD
       obtain ⟨a1, b8, a3, a4⟩ := at_T30 b7.out a0 a7 a8
       have a5 := a4
       have a6 := a3
       cases b8
       replace a3 := zx HB a3
       replace a4 := zx HB a4
       replace a7 := eq_true a7
       replace a8 := eq_true a8
       have b9 : 0 ≤ ((a2) : Int) := zD
       have c1 : (a2) < (l0.length : Int) := zD
       obtain ⟨c8, c9, a9, b0⟩ := at_T30 b7.out (a2) b9 c1
       have b1 := b0
       have b2 := a9
       obtain rfl : a1 = c8 := (by injection c9)
       replace a9 := zx HB a9
       replace b0 := zx HB b0
       replace b9 := eq_true b9
       replace c1 := eq_true c1
       have c2 : 0 ≤ (a0 : Int) := zD
       have c3 : a0 < (l0.length : Int) := zD
       obtain ⟨d0, d1, b3, b4⟩ := at_T30 b7.out a0 c2 c3
       have b5 := b4
       have b6 := b3
       obtain rfl : a1 = d0 := (by injection d1)
       replace b3 := zx HB b3
       replace b4 := zx HB b4
       replace c2 := eq_true c2
       replace c3 := eq_true c3
       refine start_ (n := 24) (S := fun w' => w'.cell? (a1.add ((a0).toNat * 2)) = some (.string ((rd_T30 l0 a0).f0)) ∧ w'.cell? ⟨(a1.add ((a0).toNat * 2)).block, (a1.add ((a0).toNat * 2)).off + 1, none⟩ = some (.string ((rd_T30 l0 a0).f1)) ∧ w'.cell? (a1.add (((a2)).toNat * 2)) = some (.string ((rd_T30 l0 (a2)).f0)) ∧ w'.cell? ⟨(a1.add (((a2)).toNat * 2)).block, (a1.add (((a2)).toNat * 2)).off + 1, none⟩ = some (.string ((rd_T30 l0 (a2)).f1)) ∧ w'.cell? (a1.add ((a0).toNat * 2)) = some (.string ((rd_T30 l0 a0).f0)) ∧ w'.cell? ⟨(a1.add ((a0).toNat * 2)).block, (a1.add ((a0).toNat * 2)).off + 1, none⟩ = some (.string ((rd_T30 l0 a0).f1))) (ds := []) (Array.replicate 24 false) (by kernel_rfl) rfl rfl ⟨((HB.out.cell (World.block_lt_of_cell? w _ a6)).trans a6), ((HB.out.cell (World.block_lt_of_cell? w _ a5)).trans a5), ((HB.out.cell (World.block_lt_of_cell? w _ b2)).trans b2), ((HB.out.cell (World.block_lt_of_cell? w _ b1)).trans b1), ((HB.out.cell (World.block_lt_of_cell? w _ b6)).trans b6), ((HB.out.cell (World.block_lt_of_cell? w _ b5)).trans b5)⟩ (fun hHeld => ?_); refine with_tabW spec_l7Needs.tab4 spec_l7Needs.bits4 (fun HT_ HW_ => ?_)
       generalize wr.drew = e5 at HB a3 a4 a9 b0 b3 b4 hHeld ⊢
       refine zp 0 10 ?_
       refine zp 1 11 ?_
       refine zp 2 12 ?_
       refine zt 3 13 ?_
       refine zo 4 (some 14) fun K hK => ?_
       refine goes_ Tryz.func109 (by kernel_rfl) rfl #[.agg #[.string ((rd_T30 l0 a0).f0), .string ((rd_T30 l0 a0).f1)]] (by rfl) rfl rfl zM ?_
       with_reducible refine (spec_l7Need.calls k1 ((rd_T30 l0 a0).f0) ((rd_T30 l0 a0).f1) true _ A4.out).mono ?_
       rintro e e6 ⟨rfl, hb⟩
       refine ⟨_, rfl, ?_⟩
       replace HB := zA (below_step (zB) hb)
       (try clear hb)
       refine hK.out _ _ ⟨((HB.out.cell (World.block_lt_of_cell? w _ a6)).trans a6), ((HB.out.cell (World.block_lt_of_cell? w _ a5)).trans a5), ((HB.out.cell (World.block_lt_of_cell? w _ b2)).trans b2), ((HB.out.cell (World.block_lt_of_cell? w _ b1)).trans b1), ((HB.out.cell (World.block_lt_of_cell? w _ b6)).trans b6), ((HB.out.cell (World.block_lt_of_cell? w _ b5)).trans b5)⟩ (fun hHeld => ?_)
       clear hK K
       refine zn ?_
       refine zp 5 15 ?_
       refine zp 6 16 ?_
       refine zp 7 17 ?_
       refine zp 8 18 ?_
       refine zp 9 19 ?_
       refine zp 10 20 ?_
       refine zp 11 21 ?_
       refine zp 12 22 ?_
       refine zp 13 23 ?_
       refine zp 14 24 ?_
       refine zp 16 26 ?_
       refine zp 17 27 ?_
       refine zp 18 28 ?_
       refine zp 19 29 ?_
       refine zt 15 25 ?_
       refine zt 20 30 ?_
       refine zp 21 31 ?_
       refine zp 22 32 ?_
       refine zp 23 33 ?_
       refine done_ (done_of HT_.out (by kernel_rfl)) ?_
       try go_wp2
       go_ret
       exact ⟨by first | rfl | (simp [errW_none, errW_some] <;> rfl) | (simp only [← c4]; first | rfl | (simp [errW_none, errW_some] <;> rfl)) | (simp [*, errW_none, errW_some] <;> rfl), zB⟩
     ·have d5 : decide (0 < a0) = false := decide_eq_false c6
      clear c6
      have H' := Aside0.mk H
      clear H
      try go_wp2
      replace HB := zA (below_drew1 HB.out)
      have a7 : 0 ≤ (a0 : Int) := zD
      have a8 : a0 < (l0.length : Int) := zD
      obtain ⟨a1, b8, a3, a4⟩ := at_T30 b7.out a0 a7 a8
      have a5 := a4
      have a6 := a3
      cases b8
      replace a3 := zx HB a3
      replace a4 := zx HB a4
      replace a7 := eq_true a7
      replace a8 := eq_true a8
      refine start_ (n := 24) (S := fun w' => w'.cell? (a1.add ((a0).toNat * 2)) = some (.string ((rd_T30 l0 a0).f0)) ∧ w'.cell? ⟨(a1.add ((a0).toNat * 2)).block, (a1.add ((a0).toNat * 2)).off + 1, none⟩ = some (.string ((rd_T30 l0 a0).f1))) (ds := []) (Array.replicate 24 false) (by kernel_rfl) rfl rfl ⟨((HB.out.cell (World.block_lt_of_cell? w _ a6)).trans a6), ((HB.out.cell (World.block_lt_of_cell? w _ a5)).trans a5)⟩ (fun hHeld => ?_); refine with_tabW spec_l7Needs.tab4 spec_l7Needs.bits4 (fun HT_ HW_ => ?_)
      generalize wr.drew = e7 at HB a3 a4 hHeld ⊢
      refine zp 0 10 ?_
      refine zp 1 11 ?_
      refine zp 2 12 ?_
      refine zt 3 13 ?_
      refine zo 4 (some 14) fun K hK => ?_
      refine goes_ Tryz.func109 (by kernel_rfl) rfl #[.agg #[.string ((rd_T30 l0 a0).f0), .string ((rd_T30 l0 a0).f1)]] (by rfl) rfl rfl zM ?_
      with_reducible refine (spec_l7Need.calls k1 ((rd_T30 l0 a0).f0) ((rd_T30 l0 a0).f1) true _ A4.out).mono ?_
      rintro e e8 ⟨rfl, hb⟩
      refine ⟨_, rfl, ?_⟩
      replace HB := zA (below_step (zB) hb)
      (try clear hb)
      refine hK.out _ _ ⟨((HB.out.cell (World.block_lt_of_cell? w _ a6)).trans a6), ((HB.out.cell (World.block_lt_of_cell? w _ a5)).trans a5)⟩ (fun hHeld => ?_)
      clear hK K
      refine zn ?_
      refine zp 5 15 ?_
      refine zp 6 16 ?_
      refine zp 7 17 ?_
      refine zp 8 18 ?_
      refine zp 9 19 ?_
      refine zu 10 20 ?_
      refine zu 11 21 ?_
      refine zu 12 22 ?_
      refine zu 13 23 ?_
      refine zu 14 24 ?_
      refine zu 15 25 ?_
      refine zu 16 26 ?_
      refine zu 17 27 ?_
      refine zu 18 28 ?_
      refine zu 19 29 ?_
      refine zu 20 30 ?_
      refine zu 21 31 ?_
      refine zp 22 32 ?_
      refine zp 23 33 ?_
      refine done_ (done_of HT_.out (by kernel_rfl)) ?_
      try go_wp2
      go_roundg k1
      case measure => have := c7.out; omega
      case rel => exact ⟨(wrap64 (a0 + 1)), zS, H', ⟨by have := c7.out; omega⟩, ⟨zB⟩⟩
    ·obtain rfl := Option.some.inj H
     try go_wp2
     replace HB := zA (below_drew1 HB.out)
     have a7 : 0 ≤ (a0 : Int) := zD
     have a8 : a0 < (l0.length : Int) := zD
     obtain ⟨a1, b8, a3, a4⟩ := at_T30 b7.out a0 a7 a8
     have a5 := a4
     have a6 := a3
     cases b8
     replace a3 := zx HB a3
     replace a4 := zx HB a4
     replace a7 := eq_true a7
     replace a8 := eq_true a8
     refine start_ (n := 24) (S := fun w' => w'.cell? (a1.add ((a0).toNat * 2)) = some (.string ((rd_T30 l0 a0).f0)) ∧ w'.cell? ⟨(a1.add ((a0).toNat * 2)).block, (a1.add ((a0).toNat * 2)).off + 1, none⟩ = some (.string ((rd_T30 l0 a0).f1))) (ds := []) (Array.replicate 24 false) (by kernel_rfl) rfl rfl ⟨((HB.out.cell (World.block_lt_of_cell? w _ a6)).trans a6), ((HB.out.cell (World.block_lt_of_cell? w _ a5)).trans a5)⟩ (fun hHeld => ?_); refine with_tabW spec_l7Needs.tab4 spec_l7Needs.bits4 (fun HT_ HW_ => ?_)
     generalize wr.drew = e9 at HB a3 a4 hHeld ⊢
     refine zp 0 10 ?_
     refine zp 1 11 ?_
     refine zp 2 12 ?_
     refine zt 3 13 ?_
     refine zo 4 (some 14) fun K hK => ?_
     refine goes_ Tryz.func109 (by kernel_rfl) rfl #[.agg #[.string ((rd_T30 l0 a0).f0), .string ((rd_T30 l0 a0).f1)]] (by rfl) rfl rfl zM ?_
     with_reducible refine (spec_l7Need.calls k1 ((rd_T30 l0 a0).f0) ((rd_T30 l0 a0).f1) false _ A4.out).mono ?_
     rintro e f2 ⟨rfl, hb⟩
     refine ⟨_, rfl, ?_⟩
     replace HB := zA (below_step (zB) hb)
     (try clear hb)
     refine hK.out _ _ ⟨((HB.out.cell (World.block_lt_of_cell? w _ a6)).trans a6), ((HB.out.cell (World.block_lt_of_cell? w _ a5)).trans a5)⟩ (fun hHeld => ?_)
     clear hK K
     refine zn ?_
     refine zp 5 15 ?_
     refine zp 6 16 ?_
     refine zu 7 17 ?_
     refine zu 8 18 ?_
     refine zu 9 19 ?_
     refine zu 10 20 ?_
     refine zu 11 21 ?_
     refine zu 12 22 ?_
     refine zu 13 23 ?_
     refine zu 14 24 ?_
     refine zu 15 25 ?_
     refine zu 16 26 ?_
     refine zu 17 27 ?_
     refine zu 18 28 ?_
     refine zu 19 29 ?_
     refine zu 20 30 ?_
     refine zu 21 31 ?_
     refine zu 22 32 ?_
     refine zp 23 33 ?_
     refine done_ (done_of HT_.out (by kernel_rfl)) ?_
     try go_wp2
     go_ret
     exact ⟨zE, zB⟩
   ·obtain rfl := Option.some.inj H
    go_wp2
    go_ret
    exact ⟨zE, zB⟩
end Go.Proofs.YtpcdhoeoefoeoaaGreatDoor.PGC
