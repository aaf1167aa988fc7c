/- The walks of the functions that these laws reach, and what each comes to: printed by this session's program. -/
import Derived.Test.YtpcdhoeoefoeoaaGreatDoorZGCPGCx0
import Derived.Test.YtpcdhoeoefoeoaaGreatDoorZGCPGCx1
import Derived.Test.YtpcdhoeoefoeoaaGreatDoorZGCPGCx2
import Derived.Test.YtpcdhoeoefoeoaaGreatDoorZGCPGCx12
import Derived.Test.YtpcdhoeoefoeoaaGreatDoorZGCSays
import Derived.Test.YtpcdhoeoefoeoaaGreatDoorZGCRegs
namespace Go.Proofs.YtpcdhoeoefoeoaaGreatDoor.PGC
open Go.RowKit YtpcdhoeoefoeoaaGreatDoorW.PrintWords YtpcdhoeoefoeoaaGreatDoorW.PrintLast YtpcdhoeoefoeoaaGreatDoorW.PrintMore
attribute [local go_sem high] Mine.str_gtr Mine.str_leq Mine.str_geq
attribute [local go_sem] max2_int min2_int max_two min_two max_three min_three max_four min_four   -- for this text's walks alone
set_option linter.unusedVariables false
set_option maxHeartbeats 8000000
set_option maxRecDepth 100000
set_option linter.unusedSimpArgs false
/-! ### spec_l7Cmds: function 57 -/
mutual
def spec_l7Cmds.l0 : Nat → List (S93) → Int → Option (Bool)
 | 0, _, _ => none
 | k + 1, x0, x3 => if x3 < (x0.length : Int) then (spec_l7Cmds.j1 k x0 x3) else (some (decide ((x0.length : Int) ≤ 4)))
def spec_l7Cmds.j1 : Nat → List (S93) → Int → Option (Bool)
 | 0, _, _ => none
 | k + 1, x0, x3 => if 0 ≤ x3 then (if x3 < (x0.length : Int) then ((spec_NameOk.f k ((rd_T93 x0 x3).f0)).bind fun a0 => (if a0 = true then ((spec_l1In.f (((rd_T93 x0 x3).f1).length : Int) 1 5).bind fun a1 => (if a1 = true then (if x3 > 0 then (if 0 ≤ (wrap64 (x3 - 1)) then (if (wrap64 (x3 - 1)) < (x0.length : Int) then (spec_l7Cmds.j2 k x0 x3 (!(Op.bytesLess (((rd_T93 x0 (wrap64 (x3 - 1))).f0).toList) (((rd_T93 x0 x3).f0).toList)))) else (none)) else (none)) else (spec_l7Cmds.j2 k x0 x3 false)) else (spec_l7Cmds.j2 k x0 x3 true))) else (spec_l7Cmds.j2 k x0 x3 true))) else (none)) else (none)
def spec_l7Cmds.j2 : Nat → List (S93) → Int → Bool → Option (Bool)
 | 0, _, _, _ => none
 | k + 1, x0, x3, a2 => if a2 = true then (some false) else (spec_l7Cmds.j3 k x0 x3)
def spec_l7Cmds.j3 : Nat → List (S93) → Int → Option (Bool)
 | 0, _, _ => none
 | k + 1, x0, x3 => spec_l7Cmds.l1 k x0 x3 0
def spec_l7Cmds.l1 : Nat → List (S93) → Int → Int → Option (Bool)
 | 0, _, _, _ => none
 | k + 1, x0, x3, x4 => if 0 ≤ x3 then (if x3 < (x0.length : Int) then (if x4 < (((rd_T93 x0 x3).f1).length : Int) then (if 0 ≤ x4 then ((spec_PlainOk.f k (rdOf ByteArray.empty ((rd_T93 x0 x3).f1) x4) 40).bind fun a3 => (if a3 = true then (spec_l7Cmds.l1 k x0 x3 (wrap64 (x4 + 1))) else (some false))) else (none)) else (spec_l7Cmds.l0 k x0 (wrap64 (x3 + 1)))) else (none)) else (none)
end
def spec_l7Cmds.f (k : Nat) (l0 : List (S93)) : Option (Bool) := spec_l7Cmds.l0 k l0 0
def spec_l7Cmds.T4 : Bool × List (List Nat × List Nat) := (true, [([], []), ([], []), ([0, 1], [0, 1]), ([2], [2]), ([3], [3]), ([4], [4]), ([5], [5]), ([6, 5], [6]), ([7], [7]), ([7], [7]), ([8, 9, 7], [7, 8, 9]), ([10, 7], [7, 10]), ([11, 7], [7, 11]), ([12, 7], [7, 12]), ([13, 7, 7], [7, 13]), ([14, 7], [7, 14]), ([7, 15], [7, 15]), ([16, 14], [16]), ([17], [17]), ([18, 17], [17, 18]), ([19, 17, 17], [17, 19]), ([20], [20]), ([20], [20]), ([22, 20], [20, 22]), ([21, 23, 20], [20, 21, 23]), ([24, 20], [20, 24]), ([25, 20], [20, 25]), ([20], [20]), ([20], [20]), ([27, 28, 20], [20, 27, 28]), ([29, 20], [20, 29]), ([30, 20], [20, 30]), ([26, 31, 20], [20, 26, 31]), ([20, 32, 17], [17, 20, 32]), ([17, 33], [17, 33])])
def spec_l7Cmds.B4 : List Nat := [0, 0, 3, 7, 15, 31, 63, 127, 255, 255, 1023, 2047, 4095, 8191, 16383, 32767, 65535, 131071, 262143, 524287, 1048575, 2097151, 2097151, 6291455, 16777215, 33554431, 67108863, 2097151, 2097151, 404750335, 941621247, 2015363071, 4294967295, 8589934591, 17179869183]
theorem spec_l7Cmds.tab4 : rtab .any (opsOf Tryz.f57 4) = spec_l7Cmds.T4 := by kernel_rfl
theorem spec_l7Cmds.bits4 : waitsOk spec_l7Cmds.T4.2 spec_l7Cmds.B4 = true := by kernel_rfl
theorem spec_l7Cmds.calls (k : Nat) (A0 : Option Addr) (c0 : Nat) (l0 : List (S93)) (r : Bool) (w : World) (i5 : Kd.C k93 w A0 l0.length l0) (i6 : l0.length ≤ c0) (h : spec_l7Cmds.f k l0 = some r) :
  Calls Tryz.prog 57 #[.slice A0 l0.length c0] w fun e w' => e = .returned (.bool r) ∧ Below w.heap.size w w' := by
 have b2 := Aside0.mk i5
 have m4 := Aside0.mk i6
 clear i5 i6
 have HB := zA (Below.refl w.heap.size w)
 unfold spec_l7Cmds.f at h
 have H := h
 clear h
 have H' := Aside0.mk H
 clear H
 go_enter Tryz.func57, Tryz.ntmps57
 go_wp2
 go_loopg [3] k (fun kq v3 w' => ∃ (a0 : Int), v3 = .int .i64 a0 ∧ Aside0 (spec_l7Cmds.l0 kq l0 a0 = some r) ∧ Aside0 (kq ≤ k) ∧ Aside0 (Below w.heap.size w w'))
 case atStart => exact ⟨(0), zS, H', ⟨Nat.le_refl _⟩, ⟨zB⟩⟩
 case round =>
  clear H'
  obtain ⟨a0, rfl, HA, d1, HB⟩ := hrel
  cases gk with
  | zero => exact absurd HA.out (by simp [spec_l7Cmds.l0])
  | succ k1 =>
   have H := HA.out
   clear HA
   simp only [spec_l7Cmds.l0] at H
   have h2 := Aside0.mk H
   clear H
   go_upto_if 8 with (fail)
   go_cut [] (fun wc => ∃ (kq : Nat), Aside0 (spec_l7Cmds.j1 kq l0 a0 = some r) ∧ Aside0 (kq ≤ k1) ∧ Aside0 (Below w.heap.size w wc))
   case first =>
    have H := h2.out
    clear h2
    replace H := zI0 H
    rcases H with ⟨e6, H⟩ | ⟨e6, H⟩
    ·(first | rw [e6] | (simp only [i64_w, i32_w]; rw [e6]) | skip)
     have H' := Aside0.mk H
     clear H
     go_wp2
     go_meet
     case rel => exact ⟨_, (by first | exact H' | (subst_vars; exact H')), ⟨by have := d1.out; first | omega | exact Nat.le_refl _⟩, ⟨zB⟩⟩
    ·(first | rw [e6] | (simp only [i64_w, i32_w]; rw [e6]) | skip)
     obtain rfl := Option.some.inj H
     go_wp2
     go_ret
     exact ⟨zE, zB⟩
   case rest =>
    clear h2
    try clear p2
    try clear c3
    try clear e6
    obtain ⟨kq, HA, d3, HB⟩ := hcut
    cases kq with
    | zero => exact absurd HA.out (by simp [spec_l7Cmds.j1])
    | succ e7 =>
     have H := HA.out
     clear HA
     simp only [spec_l7Cmds.j1] at H
     have h3 := Aside0.mk H
     clear H
     go_upto_region 4 with (fail)
     go_cut [45] (fun k6 wc => ∃ (kq : Nat) (h4 : Bool), k6 = .bool h4 ∧ Aside0 (spec_l7Cmds.j2 kq l0 a0 h4 = some r) ∧ Aside0 (kq ≤ e7) ∧ Aside0 (Below w.heap.size w wc))
     case first =>
      have H := h3.out
      clear h3
      replace H := zD0 H
      obtain ⟨i7, H⟩ := H
      (first | rw [i7] | (simp only [i64_w, i32_w]; rw [i7]) | skip)
      replace H := zD0 H
      obtain ⟨m5, H⟩ := H
      replace H := zj H
      obtain ⟨m6, A7, H⟩ := H
      try dsimp only at H
      replace H := zB0 H
      rcases H with ⟨rfl, H⟩ | ⟨rfl, H⟩
      ·replace H := zj H
       obtain ⟨m7, A9, H⟩ := H
       try dsimp only at H
       replace H := zB0 H
       rcases H with ⟨rfl, H⟩ | ⟨rfl, H⟩
       ·replace H := zI1 H
        rcases H with ⟨f5, H⟩ | ⟨f5, H⟩
        ·have k7 : decide (0 < a0) = true := decide_eq_true f5
         clear f5
         obtain ⟨b6, e8⟩ : ∃ j_ : Int, (wrap64 (a0 - 1)) = j_ := ⟨_, rfl⟩
         replace H : (if 0 ≤ (b6) then (if (b6) < (l0.length : Int) then (spec_l7Cmds.j2 e7 l0 a0 (!(Op.bytesLess (((rd_T93 l0 (b6)).f0).toList) (((rd_T93 l0 a0).f0).toList)))) else (none)) else (none)) = some r := by first | (rw [e8] at H; exact H) | (simp only [e8] at H ⊢; exact H)
         (try rw [e8] at A7)
         (try rw [e8] at A9)
         have hji12w : (IntKind.i64.wrap (a0 - 1)) = b6 := (i64_w _).trans e8
         replace H := zD0 H
         obtain ⟨m8, H⟩ := H
         replace H := zD0 H
         obtain ⟨m9, H⟩ := H
         have H' := Aside0.mk H
         clear H
         try go_wp2
         replace HB := zA (below_drew1 HB.out)
         have a9 : 0 ≤ (a0 : Int) := zD
         have b0 : a0 < (l0.length : Int) := zD
         obtain ⟨a1, b7, b8, d9, a5, a2, b9, c7⟩ := at_T93 b2.out a0 a9 b0
         have a3 := a2
         have a4 := a5
         cases d9
         replace a5 := zx HB a5
         replace a2 := zx HB a2
         have e0 := Aside0.mk c7
         have h5 := Aside0.mk b9
         clear c7 b9
         replace a9 := eq_true a9
         replace b0 := eq_true b0
         have b3 : 0 ≤ (a0 : Int) := zD
         have b4 : a0 < (l0.length : Int) := zD
         obtain ⟨f6, i8, i9, f7, b1, a6, d4, d5⟩ := at_T93 b2.out a0 b3 b4
         have a7 := a6
         have a8 := b1
         obtain rfl : a1 = f6 := (by injection f7)
         replace b1 := zx HB b1
         replace a6 := zx HB a6
         have f8 := Aside0.mk d5
         have j0 := Aside0.mk d4
         clear d5 d4
         replace b3 := eq_true b3
         replace b4 := eq_true b4
         have ea_ := Option.some.inj (a2.symm.trans a6)
         injection ea_ with ea_ en_ ec_
         subst ea_
         subst ec_
         clear en_
         have h6 : 0 ≤ ((b6) : Int) := zD
         have h7 : (b6) < (l0.length : Int) := zD
         obtain ⟨k8, k9, l2, l3, g6, g7, j4, j5⟩ := at_T93 b2.out (b6) h6 h7
         have e9 := g7
         have f2 := g6
         obtain rfl : a1 = k8 := (by injection l3)
         replace g6 := zx HB g6
         replace g7 := zx HB g7
         have l4 := Aside0.mk j5
         have n0 := Aside0.mk j4
         clear j5 j4
         replace h6 := eq_true h6
         replace h7 := eq_true h7
         have h8 : 0 ≤ (a0 : Int) := zD
         have h9 : a0 < (l0.length : Int) := zD
         obtain ⟨l5, n1, n2, l6, g8, f9, j6, j7⟩ := at_T93 b2.out a0 h8 h9
         have f3 := f9
         have f4 := g8
         obtain rfl : a1 = l5 := (by injection l6)
         replace g8 := zx HB g8
         replace f9 := zx HB f9
         have l7 := Aside0.mk j7
         have n3 := Aside0.mk j6
         clear j7 j6
         replace h8 := eq_true h8
         replace h9 := eq_true h9
         have ea_ := Option.some.inj (a2.symm.trans f9)
         injection ea_ with ea_ en_ ec_
         subst ea_
         subst ec_
         clear en_
         refine start_ (n := 35) (S := fun w' => w'.cell? (a1.add ((a0).toNat * 2)) = some (.string ((rd_T93 l0 a0).f0)) ∧ w'.cell? ⟨(a1.add ((a0).toNat * 2)).block, (a1.add ((a0).toNat * 2)).off + 1, none⟩ = some (.slice b7 ((rd_T93 l0 a0).f1).length b8) ∧ w'.cell? (a1.add ((a0).toNat * 2)) = some (.string ((rd_T93 l0 a0).f0)) ∧ w'.cell? ⟨(a1.add ((a0).toNat * 2)).block, (a1.add ((a0).toNat * 2)).off + 1, none⟩ = some (.slice b7 ((rd_T93 l0 a0).f1).length b8) ∧ w'.cell? (a1.add (((b6)).toNat * 2)) = some (.string ((rd_T93 l0 (b6)).f0)) ∧ w'.cell? ⟨(a1.add (((b6)).toNat * 2)).block, (a1.add (((b6)).toNat * 2)).off + 1, none⟩ = some (.slice k9 ((rd_T93 l0 (b6)).f1).length l2) ∧ w'.cell? (a1.add ((a0).toNat * 2)) = some (.string ((rd_T93 l0 a0).f0)) ∧ w'.cell? ⟨(a1.add ((a0).toNat * 2)).block, (a1.add ((a0).toNat * 2)).off + 1, none⟩ = some (.slice b7 ((rd_T93 l0 a0).f1).length b8)) (ds := []) (Array.replicate 35 false) (by kernel_rfl) rfl rfl ⟨((HB.out.cell (World.block_lt_of_cell? w _ a4)).trans a4), ((HB.out.cell (World.block_lt_of_cell? w _ a3)).trans a3), ((HB.out.cell (World.block_lt_of_cell? w _ a8)).trans a8), ((HB.out.cell (World.block_lt_of_cell? w _ a7)).trans a7), ((HB.out.cell (World.block_lt_of_cell? w _ f2)).trans f2), ((HB.out.cell (World.block_lt_of_cell? w _ e9)).trans e9), ((HB.out.cell (World.block_lt_of_cell? w _ f4)).trans f4), ((HB.out.cell (World.block_lt_of_cell? w _ f3)).trans f3)⟩ (fun hHeld => ?_); refine with_tabW spec_l7Cmds.tab4 spec_l7Cmds.bits4 (fun HT_ HW_ => ?_)
         generalize wc.drew = n4 at HB e0 f8 l4 l7 a5 a2 b1 a6 g6 g7 g8 f9 hHeld ⊢
         refine zp 0 11 ?_
         refine zp 1 12 ?_
         refine zp 2 13 ?_
         refine zp 3 14 ?_
         refine zt 4 15 ?_
         refine zo 5 (some 16) fun K hK => ?_
         refine goes_ Tryz.func53 (by kernel_rfl) rfl #[.string ((rd_T93 l0 a0).f0)] (by rfl) rfl rfl zM ?_
         with_reducible refine (spec_NameOk.calls e7 ((rd_T93 l0 a0).f0) true _ A7.out).mono ?_
         rintro e w' ⟨rfl, ⟨nd, rfl⟩⟩
         refine ⟨_, rfl, ?_⟩
         refine hK.out _ _ ⟨((HB.out.cell (World.block_lt_of_cell? w _ a4)).trans a4), ((HB.out.cell (World.block_lt_of_cell? w _ a3)).trans a3), ((HB.out.cell (World.block_lt_of_cell? w _ a8)).trans a8), ((HB.out.cell (World.block_lt_of_cell? w _ a7)).trans a7), ((HB.out.cell (World.block_lt_of_cell? w _ f2)).trans f2), ((HB.out.cell (World.block_lt_of_cell? w _ e9)).trans e9), ((HB.out.cell (World.block_lt_of_cell? w _ f4)).trans f4), ((HB.out.cell (World.block_lt_of_cell? w _ f3)).trans f3)⟩ (fun hHeld => ?_)
         clear hK K
         refine zn ?_
         refine zp 6 17 ?_
         refine zp 7 18 ?_
         refine zp 8 19 ?_
         refine zp 9 20 ?_
         refine zp 10 21 ?_
         refine zp 11 22 ?_
         refine zt 12 23 ?_
         refine zp 13 24 ?_
         refine zo 14 (some 25) fun K hK => ?_
         refine goes_ Tryz.func104 (by kernel_rfl) rfl #[.int .i64 (((rd_T93 l0 a0).f1).length : Int), .int .i64 1, .int .i64 5] (by rfl) rfl rfl zM ?_
         with_reducible refine (spec_l1In.calls (((rd_T93 l0 a0).f1).length : Int) 1 5 true _ A9.out).mono ?_
         rintro e w' ⟨rfl, ⟨nd, rfl⟩⟩
         refine ⟨_, rfl, ?_⟩
         refine hK.out _ _ ⟨((HB.out.cell (World.block_lt_of_cell? w _ a4)).trans a4), ((HB.out.cell (World.block_lt_of_cell? w _ a3)).trans a3), ((HB.out.cell (World.block_lt_of_cell? w _ a8)).trans a8), ((HB.out.cell (World.block_lt_of_cell? w _ a7)).trans a7), ((HB.out.cell (World.block_lt_of_cell? w _ f2)).trans f2), ((HB.out.cell (World.block_lt_of_cell? w _ e9)).trans e9), ((HB.out.cell (World.block_lt_of_cell? w _ f4)).trans f4), ((HB.out.cell (World.block_lt_of_cell? w _ f3)).trans f3)⟩ (fun hHeld => ?_)
         clear hK K
         refine zn ?_
         refine zp 15 26 ?_
         refine zp 16 27 ?_
         refine zp 17 28 ?_
         refine zp 18 29 ?_
         refine zp 19 30 ?_
         refine zp 20 31 ?_
         refine zp 21 32 ?_
         refine zp 22 33 ?_
         refine zp 23 34 ?_
         refine zp 24 35 ?_
         refine zp 25 36 ?_
         refine zp 27 38 ?_
         refine zp 28 39 ?_
         refine zp 29 40 ?_
         refine zp 30 41 ?_
         refine zt 26 37 ?_
         refine zt 31 42 ?_
         refine zp 32 43 ?_
         refine zp 33 44 ?_
         refine zp 34 45 ?_
         refine done_ (done_of HT_.out (by kernel_rfl)) ?_
         try go_wp2
         go_meet
         case rel => exact ⟨_, (!(Op.bytesLess (((rd_T93 l0 (b6)).f0).toList) (((rd_T93 l0 a0).f0).toList))), (by first | rfl | (simp; done) | (simp only [← e8] <;> (first | rfl | simp)) | (simp [*]; done)), (by first | exact H' | (subst_vars; exact H')), ⟨by have := d1.out; have := d3.out; first | omega | exact Nat.le_refl _⟩, ⟨zB⟩⟩
        ·have k7 : decide (0 < a0) = false := decide_eq_false f5
         clear f5
         have H' := Aside0.mk H
         clear H
         try go_wp2
         replace HB := zA (below_drew1 HB.out)
         have a9 : 0 ≤ (a0 : Int) := zD
         have b0 : a0 < (l0.length : Int) := zD
         obtain ⟨a1, b7, b8, d9, a5, a2, b9, c7⟩ := at_T93 b2.out a0 a9 b0
         have a3 := a2
         have a4 := a5
         cases d9
         replace a5 := zx HB a5
         replace a2 := zx HB a2
         have e0 := Aside0.mk c7
         have h5 := Aside0.mk b9
         clear c7 b9
         replace a9 := eq_true a9
         replace b0 := eq_true b0
         have b3 : 0 ≤ (a0 : Int) := zD
         have b4 : a0 < (l0.length : Int) := zD
         obtain ⟨f6, i8, i9, f7, b1, a6, d4, d5⟩ := at_T93 b2.out a0 b3 b4
         have a7 := a6
         have a8 := b1
         obtain rfl : a1 = f6 := (by injection f7)
         replace b1 := zx HB b1
         replace a6 := zx HB a6
         have f8 := Aside0.mk d5
         have j0 := Aside0.mk d4
         clear d5 d4
         replace b3 := eq_true b3
         replace b4 := eq_true b4
         have ea_ := Option.some.inj (a2.symm.trans a6)
         injection ea_ with ea_ en_ ec_
         subst ea_
         subst ec_
         clear en_
         refine start_ (n := 35) (S := fun w' => w'.cell? (a1.add ((a0).toNat * 2)) = some (.string ((rd_T93 l0 a0).f0)) ∧ w'.cell? ⟨(a1.add ((a0).toNat * 2)).block, (a1.add ((a0).toNat * 2)).off + 1, none⟩ = some (.slice b7 ((rd_T93 l0 a0).f1).length b8) ∧ w'.cell? (a1.add ((a0).toNat * 2)) = some (.string ((rd_T93 l0 a0).f0)) ∧ w'.cell? ⟨(a1.add ((a0).toNat * 2)).block, (a1.add ((a0).toNat * 2)).off + 1, none⟩ = some (.slice b7 ((rd_T93 l0 a0).f1).length b8)) (ds := []) (Array.replicate 35 false) (by kernel_rfl) rfl rfl ⟨((HB.out.cell (World.block_lt_of_cell? w _ a4)).trans a4), ((HB.out.cell (World.block_lt_of_cell? w _ a3)).trans a3), ((HB.out.cell (World.block_lt_of_cell? w _ a8)).trans a8), ((HB.out.cell (World.block_lt_of_cell? w _ a7)).trans a7)⟩ (fun hHeld => ?_); refine with_tabW spec_l7Cmds.tab4 spec_l7Cmds.bits4 (fun HT_ HW_ => ?_)
         generalize wc.drew = n5 at HB e0 f8 a5 a2 b1 a6 hHeld ⊢
         refine zp 0 11 ?_
         refine zp 1 12 ?_
         refine zp 2 13 ?_
         refine zp 3 14 ?_
         refine zt 4 15 ?_
         refine zo 5 (some 16) fun K hK => ?_
         refine goes_ Tryz.func53 (by kernel_rfl) rfl #[.string ((rd_T93 l0 a0).f0)] (by rfl) rfl rfl zM ?_
         with_reducible refine (spec_NameOk.calls e7 ((rd_T93 l0 a0).f0) true _ A7.out).mono ?_
         rintro e w' ⟨rfl, ⟨nd, rfl⟩⟩
         refine ⟨_, rfl, ?_⟩
         refine hK.out _ _ ⟨((HB.out.cell (World.block_lt_of_cell? w _ a4)).trans a4), ((HB.out.cell (World.block_lt_of_cell? w _ a3)).trans a3), ((HB.out.cell (World.block_lt_of_cell? w _ a8)).trans a8), ((HB.out.cell (World.block_lt_of_cell? w _ a7)).trans a7)⟩ (fun hHeld => ?_)
         clear hK K
         refine zn ?_
         refine zp 6 17 ?_
         refine zp 7 18 ?_
         refine zp 8 19 ?_
         refine zp 9 20 ?_
         refine zp 10 21 ?_
         refine zp 11 22 ?_
         refine zt 12 23 ?_
         refine zp 13 24 ?_
         refine zo 14 (some 25) fun K hK => ?_
         refine goes_ Tryz.func104 (by kernel_rfl) rfl #[.int .i64 (((rd_T93 l0 a0).f1).length : Int), .int .i64 1, .int .i64 5] (by rfl) rfl rfl zM ?_
         with_reducible refine (spec_l1In.calls (((rd_T93 l0 a0).f1).length : Int) 1 5 true _ A9.out).mono ?_
         rintro e w' ⟨rfl, ⟨nd, rfl⟩⟩
         refine ⟨_, rfl, ?_⟩
         refine hK.out _ _ ⟨((HB.out.cell (World.block_lt_of_cell? w _ a4)).trans a4), ((HB.out.cell (World.block_lt_of_cell? w _ a3)).trans a3), ((HB.out.cell (World.block_lt_of_cell? w _ a8)).trans a8), ((HB.out.cell (World.block_lt_of_cell? w _ a7)).trans a7)⟩ (fun hHeld => ?_)
         clear hK K
         refine zn ?_
         refine zp 15 26 ?_
         refine zp 16 27 ?_
         refine zp 17 28 ?_
         refine zp 18 29 ?_
         refine zp 19 30 ?_
         refine zp 20 31 ?_
         refine zu 21 32 ?_
         refine zu 22 33 ?_
         refine zu 23 34 ?_
         refine zu 24 35 ?_
         refine zu 25 36 ?_
         refine zu 26 37 ?_
         refine zu 27 38 ?_
         refine zu 28 39 ?_
         refine zu 29 40 ?_
         refine zu 30 41 ?_
         refine zu 31 42 ?_
         refine zu 32 43 ?_
         refine zp 33 44 ?_
         refine zp 34 45 ?_
         refine done_ (done_of HT_.out (by kernel_rfl)) ?_
         try go_wp2
         go_meet
         case rel => exact ⟨_, (false), zS, (by first | exact H' | (subst_vars; exact H')), ⟨by have := d1.out; have := d3.out; first | omega | exact Nat.le_refl _⟩, ⟨zB⟩⟩
       ·have H' := Aside0.mk H
        clear H
        try go_wp2
        replace HB := zA (below_drew1 HB.out)
        have a9 : 0 ≤ (a0 : Int) := zD
        have b0 : a0 < (l0.length : Int) := zD
        obtain ⟨a1, b7, b8, d9, a5, a2, b9, c7⟩ := at_T93 b2.out a0 a9 b0
        have a3 := a2
        have a4 := a5
        cases d9
        replace a5 := zx HB a5
        replace a2 := zx HB a2
        have e0 := Aside0.mk c7
        have h5 := Aside0.mk b9
        clear c7 b9
        replace a9 := eq_true a9
        replace b0 := eq_true b0
        have b3 : 0 ≤ (a0 : Int) := zD
        have b4 : a0 < (l0.length : Int) := zD
        obtain ⟨f6, i8, i9, f7, b1, a6, d4, d5⟩ := at_T93 b2.out a0 b3 b4
        have a7 := a6
        have a8 := b1
        obtain rfl : a1 = f6 := (by injection f7)
        replace b1 := zx HB b1
        replace a6 := zx HB a6
        have f8 := Aside0.mk d5
        have j0 := Aside0.mk d4
        clear d5 d4
        replace b3 := eq_true b3
        replace b4 := eq_true b4
        have ea_ := Option.some.inj (a2.symm.trans a6)
        injection ea_ with ea_ en_ ec_
        subst ea_
        subst ec_
        clear en_
        refine start_ (n := 35) (S := fun w' => w'.cell? (a1.add ((a0).toNat * 2)) = some (.string ((rd_T93 l0 a0).f0)) ∧ w'.cell? ⟨(a1.add ((a0).toNat * 2)).block, (a1.add ((a0).toNat * 2)).off + 1, none⟩ = some (.slice b7 ((rd_T93 l0 a0).f1).length b8) ∧ w'.cell? (a1.add ((a0).toNat * 2)) = some (.string ((rd_T93 l0 a0).f0)) ∧ w'.cell? ⟨(a1.add ((a0).toNat * 2)).block, (a1.add ((a0).toNat * 2)).off + 1, none⟩ = some (.slice b7 ((rd_T93 l0 a0).f1).length b8)) (ds := []) (Array.replicate 35 false) (by kernel_rfl) rfl rfl ⟨((HB.out.cell (World.block_lt_of_cell? w _ a4)).trans a4), ((HB.out.cell (World.block_lt_of_cell? w _ a3)).trans a3), ((HB.out.cell (World.block_lt_of_cell? w _ a8)).trans a8), ((HB.out.cell (World.block_lt_of_cell? w _ a7)).trans a7)⟩ (fun hHeld => ?_); refine with_tabW spec_l7Cmds.tab4 spec_l7Cmds.bits4 (fun HT_ HW_ => ?_)
        generalize wc.drew = n6 at HB e0 f8 a5 a2 b1 a6 hHeld ⊢
        refine zp 0 11 ?_
        refine zp 1 12 ?_
        refine zp 2 13 ?_
        refine zp 3 14 ?_
        refine zt 4 15 ?_
        refine zo 5 (some 16) fun K hK => ?_
        refine goes_ Tryz.func53 (by kernel_rfl) rfl #[.string ((rd_T93 l0 a0).f0)] (by rfl) rfl rfl zM ?_
        with_reducible refine (spec_NameOk.calls e7 ((rd_T93 l0 a0).f0) true _ A7.out).mono ?_
        rintro e w' ⟨rfl, ⟨nd, rfl⟩⟩
        refine ⟨_, rfl, ?_⟩
        refine hK.out _ _ ⟨((HB.out.cell (World.block_lt_of_cell? w _ a4)).trans a4), ((HB.out.cell (World.block_lt_of_cell? w _ a3)).trans a3), ((HB.out.cell (World.block_lt_of_cell? w _ a8)).trans a8), ((HB.out.cell (World.block_lt_of_cell? w _ a7)).trans a7)⟩ (fun hHeld => ?_)
        clear hK K
        refine zn ?_
        refine zp 6 17 ?_
        refine zp 7 18 ?_
        refine zp 8 19 ?_
        refine zp 9 20 ?_
        refine zp 10 21 ?_
        refine zp 11 22 ?_
        refine zt 12 23 ?_
        refine zp 13 24 ?_
        refine zo 14 (some 25) fun K hK => ?_
        refine goes_ Tryz.func104 (by kernel_rfl) rfl #[.int .i64 (((rd_T93 l0 a0).f1).length : Int), .int .i64 1, .int .i64 5] (by rfl) rfl rfl zM ?_
        with_reducible refine (spec_l1In.calls (((rd_T93 l0 a0).f1).length : Int) 1 5 false _ A9.out).mono ?_
        rintro e w' ⟨rfl, ⟨nd, rfl⟩⟩
        refine ⟨_, rfl, ?_⟩
        refine hK.out _ _ ⟨((HB.out.cell (World.block_lt_of_cell? w _ a4)).trans a4), ((HB.out.cell (World.block_lt_of_cell? w _ a3)).trans a3), ((HB.out.cell (World.block_lt_of_cell? w _ a8)).trans a8), ((HB.out.cell (World.block_lt_of_cell? w _ a7)).trans a7)⟩ (fun hHeld => ?_)
        clear hK K
        refine zn ?_
        refine zp 15 26 ?_
        refine zp 16 27 ?_
        refine zp 17 28 ?_
        refine zu 18 29 ?_
        refine zu 19 30 ?_
        refine zu 20 31 ?_
        refine zu 21 32 ?_
        refine zu 22 33 ?_
        refine zu 23 34 ?_
        refine zu 24 35 ?_
        refine zu 25 36 ?_
        refine zu 26 37 ?_
        refine zu 27 38 ?_
        refine zu 28 39 ?_
        refine zu 29 40 ?_
        refine zu 30 41 ?_
        refine zu 31 42 ?_
        refine zu 32 43 ?_
        refine zu 33 44 ?_
        refine zp 34 45 ?_
        refine done_ (done_of HT_.out (by kernel_rfl)) ?_
        try go_wp2
        go_meet
        case rel => exact ⟨_, (true), zS, (by first | exact H' | (subst_vars; exact H')), ⟨by have := d1.out; have := d3.out; first | omega | exact Nat.le_refl _⟩, ⟨zB⟩⟩
      ·have H' := Aside0.mk H
       clear H
       try go_wp2
       replace HB := zA (below_drew1 HB.out)
       have a9 : 0 ≤ (a0 : Int) := zD
       have b0 : a0 < (l0.length : Int) := zD
       obtain ⟨a1, b7, b8, d9, a5, a2, b9, c7⟩ := at_T93 b2.out a0 a9 b0
       have a3 := a2
       have a4 := a5
       cases d9
       replace a5 := zx HB a5
       replace a2 := zx HB a2
       have e0 := Aside0.mk c7
       have h5 := Aside0.mk b9
       clear c7 b9
       replace a9 := eq_true a9
       replace b0 := eq_true b0
       refine start_ (n := 35) (S := fun w' => w'.cell? (a1.add ((a0).toNat * 2)) = some (.string ((rd_T93 l0 a0).f0)) ∧ w'.cell? ⟨(a1.add ((a0).toNat * 2)).block, (a1.add ((a0).toNat * 2)).off + 1, none⟩ = some (.slice b7 ((rd_T93 l0 a0).f1).length b8)) (ds := []) (Array.replicate 35 false) (by kernel_rfl) rfl rfl ⟨((HB.out.cell (World.block_lt_of_cell? w _ a4)).trans a4), ((HB.out.cell (World.block_lt_of_cell? w _ a3)).trans a3)⟩ (fun hHeld => ?_); refine with_tabW spec_l7Cmds.tab4 spec_l7Cmds.bits4 (fun HT_ HW_ => ?_)
       generalize wc.drew = n7 at HB e0 a5 a2 hHeld ⊢
       refine zp 0 11 ?_
       refine zp 1 12 ?_
       refine zp 2 13 ?_
       refine zp 3 14 ?_
       refine zt 4 15 ?_
       refine zo 5 (some 16) fun K hK => ?_
       refine goes_ Tryz.func53 (by kernel_rfl) rfl #[.string ((rd_T93 l0 a0).f0)] (by rfl) rfl rfl zM ?_
       with_reducible refine (spec_NameOk.calls e7 ((rd_T93 l0 a0).f0) false _ A7.out).mono ?_
       rintro e w' ⟨rfl, ⟨nd, rfl⟩⟩
       refine ⟨_, rfl, ?_⟩
       refine hK.out _ _ ⟨((HB.out.cell (World.block_lt_of_cell? w _ a4)).trans a4), ((HB.out.cell (World.block_lt_of_cell? w _ a3)).trans a3)⟩ (fun hHeld => ?_)
       clear hK K
       refine zn ?_
       refine zp 6 17 ?_
       refine zp 7 18 ?_
       refine zu 8 19 ?_
       refine zu 9 20 ?_
       refine zu 10 21 ?_
       refine zu 11 22 ?_
       refine zu 12 23 ?_
       refine zu 13 24 ?_
       refine zu 14 25 ?_
       refine zu 15 26 ?_
       refine zp 16 27 ?_
       refine zp 17 28 ?_
       refine zu 18 29 ?_
       refine zu 19 30 ?_
       refine zu 20 31 ?_
       refine zu 21 32 ?_
       refine zu 22 33 ?_
       refine zu 23 34 ?_
       refine zu 24 35 ?_
       refine zu 25 36 ?_
       refine zu 26 37 ?_
       refine zu 27 38 ?_
       refine zu 28 39 ?_
       refine zu 29 40 ?_
       refine zu 30 41 ?_
       refine zu 31 42 ?_
       refine zu 32 43 ?_
       refine zu 33 44 ?_
       refine zp 34 45 ?_
       refine done_ (done_of HT_.out (by kernel_rfl)) ?_
       try go_wp2
       go_meet
       case rel => exact ⟨_, (true), zS, (by first | exact H' | (subst_vars; exact H')), ⟨by have := d1.out; have := d3.out; first | omega | exact Nat.le_refl _⟩, ⟨zB⟩⟩
     case rest =>
      clear h3
      try clear c1
      try clear p2
      try clear c4
      try clear p4
      try clear q4
      try clear hx4
      try clear c5
      try clear c6
      try clear c8
      try clear c10
      try clear a5
      try clear a2
      try clear b1
      try clear a6
      try clear a9
      try clear b3
      try clear b0
      try clear b4
      obtain ⟨kq, h4, rfl, HA, g0, HB⟩ := hcut
      cases kq with
      | zero => exact absurd HA.out (by simp [spec_l7Cmds.j2])
      | succ l8 =>
       have H := HA.out
       clear HA
       simp only [spec_l7Cmds.j2] at H
       have i0 := Aside0.mk H
       clear H
       go_upto_if 45 with (fail)
       go_cut [] (fun wc => ∃ (kq : Nat), Aside0 (spec_l7Cmds.j3 kq l0 a0 = some r) ∧ Aside0 (kq ≤ l8) ∧ Aside0 (Below w.heap.size w wc))
       case first =>
        have H := i0.out
        clear i0
        replace H := zB0 H
        rcases H with ⟨rfl, H⟩ | ⟨rfl, H⟩
        ·obtain rfl := Option.some.inj H
         go_wp2
         go_ret
         exact ⟨zE, zB⟩
        ·have H' := Aside0.mk H
         clear H
         go_wp2
         go_meet
         case rel => exact ⟨_, (by first | exact H' | (subst_vars; exact H')), ⟨by have := d1.out; have := d3.out; have := g0.out; first | omega | exact Nat.le_refl _⟩, ⟨zB⟩⟩
       case rest =>
        clear i0
        try clear c1
        try clear c2
        try clear p2
        try clear c4
        try clear p4
        try clear q4
        try clear hx4
        try clear c5
        try clear c6
        try clear c8
        try clear c10
        try clear c20
        try clear a5
        try clear a2
        try clear b1
        try clear a6
        try clear p2
        try clear p4
        try clear a9
        try clear b3
        try clear q4
        try clear b0
        try clear b4
        obtain ⟨kq, HA, g9, HB⟩ := hcut
        cases kq with
        | zero => exact absurd HA.out (by simp [spec_l7Cmds.j3])
        | succ j8 =>
         have H := HA.out
         clear HA
         simp only [spec_l7Cmds.j3] at H
         have H' := Aside0.mk H
         clear H
         go_wp2
         go_loopg [4] j8 (fun kq v4 w' => ∃ (b5 : Int), v4 = .int .i64 b5 ∧ Aside0 (spec_l7Cmds.l1 kq l0 a0 b5 = some r) ∧ Aside0 (kq ≤ j8) ∧ Aside0 (Below w.heap.size w w'))
         case atStart => exact ⟨(0), zS, H', ⟨Nat.le_refl _⟩, ⟨zB⟩⟩
         case round =>
          clear H'
          try clear c1
          try clear c2
          try clear p2
          try clear c4
          try clear p4
          try clear q4
          try clear hx4
          try clear c5
          try clear c6
          try clear c8
          try clear c10
          try clear c20
          try clear a5
          try clear a2
          try clear b1
          try clear a6
          try clear p2
          try clear p4
          try clear a9
          try clear b3
          try clear q4
          try clear b0
          try clear b4
          obtain ⟨b5, rfl, HA, h0, HB⟩ := hrel
          cases gk with
          | zero => exact absurd HA.out (by simp [spec_l7Cmds.l1])
          | succ k5 =>
           have H := HA.out
           clear HA
           simp only [spec_l7Cmds.l1] at H
           replace H := zD0 H
           obtain ⟨n8, H⟩ := H
           replace H := zD0 H
           obtain ⟨n9, H⟩ := H
           replace H := zI0 H
           rcases H with ⟨l9, H⟩ | ⟨l9, H⟩
           ·replace H := zD0 H
            obtain ⟨o0, H⟩ := H
            replace H := zj H
            obtain ⟨o1, j9, H⟩ := H
            try dsimp only at H
            replace H := zB0 H
            rcases H with ⟨rfl, H⟩ | ⟨rfl, H⟩
            ·have H' := Aside0.mk H
             clear H
             have c9 : 0 ≤ (a0 : Int) := zD
             have d0 : a0 < (l0.length : Int) := zD
             obtain ⟨h1, k0, k2, g1, d6, d2, d7, d8⟩ := at_T93 b2.out a0 c9 d0
             cases g1
             replace d6 := zx HB d6
             replace d2 := zx HB d2
             have k3 := Aside0.mk d8
             have k4 := Aside0.mk d7
             clear d8 d7
             replace c9 := eq_true c9
             replace d0 := eq_true d0
             have e1 : 0 ≤ (a0 : Int) := zD
             have e2 : a0 < (l0.length : Int) := zD
             obtain ⟨i1, m0, m1, i2, g2, e3, g3, g4⟩ := at_T93 b2.out a0 e1 e2
             obtain rfl : h1 = i1 := (by injection i2)
             replace g2 := zx HB g2
             replace e3 := zx HB e3
             have i3 := Aside0.mk g4
             have m2 := Aside0.mk g3
             clear g4 g3
             replace e1 := eq_true e1
             replace e2 := eq_true e2
             have ea_ := Option.some.inj (d2.symm.trans e3)
             injection ea_ with ea_ en_ ec_
             subst ea_
             subst ec_
             clear en_
             have e4 : 0 ≤ (b5 : Int) := zD
             have e5 : b5 < (((rd_T93 l0 a0).f1).length : Int) := zD
             obtain ⟨m3, i4, g5⟩ := Kd.at_string i3.out b5 e4 e5
             cases i4
             replace g5 := zx HB g5
             replace e4 := eq_true e4
             replace e5 := eq_true e5
             go_wp2_with (first | ((with_reducible refine zq 110 ?_); refine zg (some 64) Tryz.func110 #[.string (rdOf ByteArray.empty ((rd_T93 l0 a0).f1) b5), .int .i64 40] ?_; (with_reducible refine (spec_PlainOk.calls k5 (rdOf ByteArray.empty ((rd_T93 l0 a0).f1) b5) 40 true _ j9.out).mono ?_); rintro e w' ⟨rfl, ⟨nd, rfl⟩⟩; refine ⟨_, rfl, ?_⟩))
             go_roundg k5
             case measure => have := d1.out; have := d3.out; have := g0.out; have := g9.out; have := h0.out; omega
             case rel => exact ⟨(wrap64 (b5 + 1)), zS, H', ⟨by have := d1.out; have := d3.out; have := g0.out; have := g9.out; have := h0.out; omega⟩, ⟨zB⟩⟩
            ·obtain rfl := Option.some.inj H
             have c9 : 0 ≤ (a0 : Int) := zD
             have d0 : a0 < (l0.length : Int) := zD
             obtain ⟨h1, k0, k2, g1, d6, d2, d7, d8⟩ := at_T93 b2.out a0 c9 d0
             cases g1
             replace d6 := zx HB d6
             replace d2 := zx HB d2
             have k3 := Aside0.mk d8
             have k4 := Aside0.mk d7
             clear d8 d7
             replace c9 := eq_true c9
             replace d0 := eq_true d0
             have e1 : 0 ≤ (a0 : Int) := zD
             have e2 : a0 < (l0.length : Int) := zD
             obtain ⟨i1, m0, m1, i2, g2, e3, g3, g4⟩ := at_T93 b2.out a0 e1 e2
             obtain rfl : h1 = i1 := (by injection i2)
             replace g2 := zx HB g2
             replace e3 := zx HB e3
             have i3 := Aside0.mk g4
             have m2 := Aside0.mk g3
             clear g4 g3
             replace e1 := eq_true e1
             replace e2 := eq_true e2
             have ea_ := Option.some.inj (d2.symm.trans e3)
             injection ea_ with ea_ en_ ec_
             subst ea_
             subst ec_
             clear en_
             have e4 : 0 ≤ (b5 : Int) := zD
             have e5 : b5 < (((rd_T93 l0 a0).f1).length : Int) := zD
             obtain ⟨m3, i4, g5⟩ := Kd.at_string i3.out b5 e4 e5
             cases i4
             replace g5 := zx HB g5
             replace e4 := eq_true e4
             replace e5 := eq_true e5
             go_wp2_with (first | ((with_reducible refine zq 110 ?_); refine zg (some 64) Tryz.func110 #[.string (rdOf ByteArray.empty ((rd_T93 l0 a0).f1) b5), .int .i64 40] ?_; (with_reducible refine (spec_PlainOk.calls k5 (rdOf ByteArray.empty ((rd_T93 l0 a0).f1) b5) 40 false _ j9.out).mono ?_); rintro e w' ⟨rfl, ⟨nd, rfl⟩⟩; refine ⟨_, rfl, ?_⟩))
             go_ret
             exact ⟨zE, zB⟩
           ·have H' := Aside0.mk H
            clear H
            have c9 : 0 ≤ (a0 : Int) := zD
            have d0 : a0 < (l0.length : Int) := zD
            obtain ⟨h1, k0, k2, g1, d6, d2, d7, d8⟩ := at_T93 b2.out a0 c9 d0
            cases g1
            replace d6 := zx HB d6
            replace d2 := zx HB d2
            have k3 := Aside0.mk d8
            have k4 := Aside0.mk d7
            clear d8 d7
            replace c9 := eq_true c9
            replace d0 := eq_true d0
            go_wp2
            go_roundg k5
            case measure => have := d1.out; have := d3.out; have := g0.out; have := g9.out; have := h0.out; omega
            case rel => exact ⟨(wrap64 (a0 + 1)), zS, H', ⟨by have := d1.out; have := d3.out; have := g0.out; have := g9.out; have := h0.out; omega⟩, ⟨zB⟩⟩
end Go.Proofs.YtpcdhoeoefoeoaaGreatDoor.PGC
