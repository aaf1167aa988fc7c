/- The walks of the functions that these laws reach, and what each comes to: printed by this session's program. -/
import Derived.Test.YtpcdhoeoefoeoaaGreatDoorZGCPGCx0
import Derived.Test.YtpcdhoeoefoeoaaGreatDoorZGCPGCx21
import Derived.Test.YtpcdhoeoefoeoaaGreatDoorZGCSays
import Derived.Test.YtpcdhoeoefoeoaaGreatDoorZGCRegs
namespace Go.Proofs.YtpcdhoeoefoeoaaGreatDoor.PGC
open Go.RowKit YtpcdhoeoefoeoaaGreatDoorW.PrintWords YtpcdhoeoefoeoaaGreatDoorW.PrintLast YtpcdhoeoefoeoaaGreatDoorW.PrintMore
attribute [local go_sem high] Mine.str_gtr Mine.str_leq Mine.str_geq
attribute [local go_sem] max2_int min2_int max_two min_two max_three min_three max_four min_four   -- for this text's walks alone
set_option linter.unusedVariables false
set_option maxHeartbeats 8000000
set_option maxRecDepth 100000
set_option linter.unusedSimpArgs false
/-! ### impl_needsOk: function 64 -/
def impl_needsOk.l0 : Nat → List (S30) → List (S30) → Int → Int → Option (Bool)
 | 0, _, _, _, _ => none
 | k + 1, x0, x5, x6, x7 => if x7 < x6 then (if 0 ≤ x7 then (if x7 < (x5.length : Int) then ((impl_needOk.f k ((rd_T30 x5 x7).f0) ((rd_T30 x5 x7).f1)).bind fun a0 => (if a0 = true then (if x7 > 0 then (if 0 ≤ (wrap64 (x7 - 1)) then (if (wrap64 (x7 - 1)) < (x0.length : Int) then (if ((Op.bytesLess (((rd_T30 x0 (wrap64 (x7 - 1))).f0).toList) (((rd_T30 x5 x7).f0).toList)) = true) then (impl_needsOk.l0 k x0 x5 x6 (wrap64 (x7 + 1))) else (some false)) else (none)) else (none)) else (impl_needsOk.l0 k x0 x5 x6 (wrap64 (x7 + 1)))) else (some false))) else (none)) else (none)) else (some (decide ((x0.length : Int) ≤ 4)))
def impl_needsOk.f (k : Nat) (l0 : List (S30)) : Option (Bool) := impl_needsOk.l0 k l0 l0 (l0.length : Int) 0
def impl_needsOk.T4 : Bool × List (List Nat × List Nat) := (true, [([], []), ([0], [0]), ([1], [1]), ([2, 1], [2]), ([3], [3]), ([4, 3], [3, 4]), ([5, 3, 3], [3, 5]), ([6], [6]), ([7, 6], [6, 7]), ([6], [6]), ([6], [6]), ([10, 6], [6, 10]), ([9, 11, 6], [6, 9, 11]), ([12, 6], [6, 12]), ([13, 6], [6, 13]), ([8, 14, 6], [6, 8, 14]), ([6, 15, 3], [3, 6, 15]), ([3, 16], [3, 16])])
def impl_needsOk.B4 : List Nat := [0, 1, 3, 7, 15, 31, 63, 127, 255, 127, 127, 1151, 3711, 7807, 15999, 32767, 65535, 131071]
theorem impl_needsOk.tab4 : rtab .any (opsOf Tryz.f64 4) = impl_needsOk.T4 := by kernel_rfl
theorem impl_needsOk.bits4 : waitsOk impl_needsOk.T4.2 impl_needsOk.B4 = true := by kernel_rfl
theorem impl_needsOk.calls (k : Nat) (A0 : Option Addr) (c0 : Nat) (l0 : List (S30)) (r : Bool) (w : World) (c5 : Kd.C k30 w A0 l0.length l0) (c6 : l0.length ≤ c0) (hG : GW w) (h : impl_needsOk.f k l0 = some r) :
  Calls Tryz.prog 64 #[.slice A0 l0.length c0] w fun e w' => e = .returned (.bool r) ∧ Below w.heap.size w w' := by
 have d9 := Tryz.underlying30
 have b6 := Aside0.mk c5
 have e0 := Aside0.mk c6
 clear c5 c6
 have HG := Aside0.mk hG
 clear hG
 have HB := zA (Below.refl w.heap.size w)
 unfold impl_needsOk.f at h
 have H := h
 clear h
 have H' := Aside0.mk H
 clear H
 go_enter Tryz.func64, Tryz.ntmps64
 go_wp2
 go_loopg [7] k (fun kq v7 w' => ∃ (a0 : Int), v7 = .int .i64 a0 ∧ Aside0 (impl_needsOk.l0 kq l0 l0 (l0.length : Int) a0 = some r) ∧ Aside0 (kq ≤ k) ∧ Aside0 (Below w.heap.size w w'))
 case atStart => exact ⟨(0), zS, H', ⟨Nat.le_refl _⟩, ⟨zB⟩⟩
 case round =>
  clear H'
  obtain ⟨a0, rfl, HA, b9, HB⟩ := hrel
  cases gk with
  | zero => exact absurd HA.out (by simp [impl_needsOk.l0])
  | succ k1 =>
   have H := HA.out
   clear HA
   simp only [impl_needsOk.l0] at H
   replace H := zI0 H
   rcases H with ⟨d2, H⟩ | ⟨d2, H⟩
   ·replace H := zD0 H
    obtain ⟨e1, H⟩ := H
    replace H := zD0 H
    obtain ⟨e2, H⟩ := H
    replace H := zj H
    obtain ⟨e3, A5, H⟩ := H
    try dsimp only at H
    replace H := zB0 H
    rcases H with ⟨rfl, H⟩ | ⟨rfl, H⟩
    ·replace H := zI1 H
     rcases H with ⟨c7, H⟩ | ⟨c7, H⟩
     ·have d3 : decide (0 < a0) = true := decide_eq_true c7
      clear c7
      obtain ⟨a3, b7⟩ : ∃ j_ : Int, (wrap64 (a0 - 1)) = j_ := ⟨_, rfl⟩
      replace H : (if 0 ≤ (a3) then (if (a3) < (l0.length : Int) then (if ((Op.bytesLess (((rd_T30 l0 (a3)).f0).toList) (((rd_T30 l0 a0).f0).toList)) = true) then (impl_needsOk.l0 k1 l0 l0 (l0.length : Int) (wrap64 (a0 + 1))) else (some false)) else (none)) else (none)) = some r := by first | (rw [b7] at H; exact H) | (simp only [b7] at H ⊢; exact H)
      (try rw [b7] at A5)
      have hji8w : (IntKind.i64.wrap (a0 - 1)) = a3 := (i64_w _).trans b7
      replace H := zD0 H
      obtain ⟨e4, H⟩ := H
      replace H := zD0 H
      obtain ⟨e5, H⟩ := H
      replace H := zI1 H
      rcases H with ⟨b8, H⟩ | ⟨b8, H⟩
      ·have d4 : (Op.bytesLess (((rd_T30 l0 (a3)).f0).toList) (((rd_T30 l0 a0).f0).toList)) = true := b8
       clear b8
       have H' := Aside0.mk H
       clear H
       have a4 : 0 ≤ (a0 : Int) := zD
       have a5 : a0 < (l0.length : Int) := zD
       obtain ⟨a6, b3, a7, a8⟩ := at_T30 b6.out a0 a4 a5
       cases b3
       replace a7 := zx HB a7
       replace a8 := zx HB a8
       replace a4 := eq_true a4
       replace a5 := eq_true a5
       try go_wp2_with (first | ((with_reducible refine zd 4 ?_); refine ze 4 30 #[.string (⟨#[]⟩ : ByteArray), .string (⟨#[]⟩ : ByteArray)] ?_; intro a2 hg d5 hbox hb; have a1 := zA (hbox); have c1 := zi HB hg; have c2 := zi HB hg; replace HB := zA (below_step (zB) hb); clear hb hbox hg; obtain ⟨e6, e7, e8, e9⟩ := ze2 a1.out))
       generalize hW_ : ((d5.setCell ⟨a2, 0, none⟩ (.string ((rd_T30 l0 a0).f0))).setCell ⟨a2, 1, none⟩ (.string ((rd_T30 l0 a0).f1))) = c8
       replace a1 : Aside0 (c8.heap[a2]? = some (.cells #[.string ((rd_T30 l0 a0).f0), .string ((rd_T30 l0 a0).f1)] 30 (0, 0))) := ⟨by subst hW_; (with_reducible repeat (first | refine blk_drewN ?_ _ | refine blk_drew ?_ | refine blk_alloc ?_ _)); refine blk_put (cs := #[.string ((rd_T30 l0 a0).f0), .string (⟨#[]⟩ : ByteArray)]) ?_ 1 _ rfl; (with_reducible repeat (first | refine blk_drewN ?_ _ | refine blk_drew ?_ | refine blk_alloc ?_ _)); refine blk_put (cs := #[.string (⟨#[]⟩ : ByteArray), .string (⟨#[]⟩ : ByteArray)]) ?_ 0 _ rfl; (with_reducible repeat (first | refine blk_drewN ?_ _ | refine blk_drew ?_ | refine blk_alloc ?_ _)); exact a1.out⟩
       replace HB := zA (zh2 hW_.symm (zW HB.out))
       clear hW_
       replace a1 := zA (blk_drew a1.out)
       replace HB := zA (below_drew1 HB.out)
       have b4 : 0 ≤ ((a3) : Int) := zD
       have b5 : (a3) < (l0.length : Int) := zD
       obtain ⟨c3, c4, a9, b0⟩ := at_T30 b6.out (a3) b4 b5
       have b1 := b0
       have b2 := a9
       obtain rfl : a6 = c3 := (by injection c4)
       replace a9 := zx HB a9
       replace b0 := zx HB b0
       replace b4 := eq_true b4
       replace b5 := eq_true b5
       refine start_ (n := 18) (S := fun w' => w'.cell? ⟨a2, 0, none⟩ = some (.string ((rd_T30 l0 a0).f0)) ∧ w'.cell? ⟨a2, 1, none⟩ = some (.string ((rd_T30 l0 a0).f1)) ∧ w'.cell? (a6.add (((a3)).toNat * 2)) = some (.string ((rd_T30 l0 (a3)).f0)) ∧ w'.cell? ⟨(a6.add (((a3)).toNat * 2)).block, (a6.add (((a3)).toNat * 2)).off + 1, none⟩ = some (.string ((rd_T30 l0 (a3)).f1))) (ds := []) (Array.replicate 18 false) (by kernel_rfl) rfl rfl ⟨(blk_cell a1.out 0).trans rfl, (blk_cell a1.out 1).trans rfl, ((HB.out.cell (World.block_lt_of_cell? w _ b2)).trans b2), ((HB.out.cell (World.block_lt_of_cell? w _ b1)).trans b1)⟩ (fun hHeld => ?_); refine with_tabW impl_needsOk.tab4 impl_needsOk.bits4 (fun HT_ HW_ => ?_)
       generalize c8.drew = f2 at a1 HB a9 b0 hHeld ⊢
       refine zt 0 12 ?_
       refine zo 1 (some 13) fun K hK => ?_
       refine goes_ Tryz.func116 (by kernel_rfl) rfl #[.agg #[.string ((rd_T30 l0 a0).f0), .string ((rd_T30 l0 a0).f1)]] (by rfl) rfl rfl zM ?_
       with_reducible refine (impl_needOk.calls k1 ((rd_T30 l0 a0).f0) ((rd_T30 l0 a0).f1) true _ ?side1 A5.out).mono ?_
       (case side1 => exact GW.below HG.out (zW HB.out))
       rintro e f3 ⟨rfl, hb⟩
       refine ⟨_, rfl, ?_⟩
       replace a1 := zb a1 hb
       replace HB := zh HB hb
       (try clear hb)
       refine hK.out _ _ ⟨(blk_cell a1.out 0).trans rfl, (blk_cell a1.out 1).trans rfl, ((HB.out.cell (World.block_lt_of_cell? w _ b2)).trans b2), ((HB.out.cell (World.block_lt_of_cell? w _ b1)).trans b1)⟩ (fun hHeld => ?_)
       clear hK K
       refine zn ?_
       refine zp 2 14 ?_
       refine zp 3 15 ?_
       refine zp 4 16 ?_
       refine zp 5 17 ?_
       refine zp 6 18 ?_
       refine zp 7 19 ?_
       refine zp 9 21 ?_
       refine zp 10 22 ?_
       refine zp 11 23 ?_
       refine zp 12 24 ?_
       refine zp 13 25 ?_
       refine zt 8 20 ?_
       refine zt 14 26 ?_
       refine zp 15 27 ?_
       refine zp 16 28 ?_
       refine zp 17 29 ?_
       refine done_ (done_of HT_.out (by kernel_rfl)) ?_
       try go_wp2
       go_roundg k1
       case measure => have := b9.out; omega
       case rel => exact ⟨(wrap64 (a0 + 1)), zS, H', ⟨by have := b9.out; omega⟩, ⟨zW HB.out⟩⟩
      ·have d4 : (Op.bytesLess (((rd_T30 l0 (a3)).f0).toList) (((rd_T30 l0 a0).f0).toList)) = false := by simpa using b8
       clear b8
       obtain rfl := Option.some.inj H
       have a4 : 0 ≤ (a0 : Int) := zD
       have a5 : a0 < (l0.length : Int) := zD
       obtain ⟨a6, b3, a7, a8⟩ := at_T30 b6.out a0 a4 a5
       cases b3
       replace a7 := zx HB a7
       replace a8 := zx HB a8
       replace a4 := eq_true a4
       replace a5 := eq_true a5
       try go_wp2_with (first | ((with_reducible refine zd 4 ?_); refine ze 4 30 #[.string (⟨#[]⟩ : ByteArray), .string (⟨#[]⟩ : ByteArray)] ?_; intro a2 hg d6 hbox hb; have a1 := zA (hbox); have c1 := zi HB hg; have c2 := zi HB hg; replace HB := zA (below_step (zB) hb); clear hb hbox hg; obtain ⟨f4, f5, f6, f7⟩ := ze2 a1.out))
       generalize hW_ : ((d6.setCell ⟨a2, 0, none⟩ (.string ((rd_T30 l0 a0).f0))).setCell ⟨a2, 1, none⟩ (.string ((rd_T30 l0 a0).f1))) = c9
       replace a1 : Aside0 (c9.heap[a2]? = some (.cells #[.string ((rd_T30 l0 a0).f0), .string ((rd_T30 l0 a0).f1)] 30 (0, 0))) := ⟨by subst hW_; (with_reducible repeat (first | refine blk_drewN ?_ _ | refine blk_drew ?_ | refine blk_alloc ?_ _)); refine blk_put (cs := #[.string ((rd_T30 l0 a0).f0), .string (⟨#[]⟩ : ByteArray)]) ?_ 1 _ rfl; (with_reducible repeat (first | refine blk_drewN ?_ _ | refine blk_drew ?_ | refine blk_alloc ?_ _)); refine blk_put (cs := #[.string (⟨#[]⟩ : ByteArray), .string (⟨#[]⟩ : ByteArray)]) ?_ 0 _ rfl; (with_reducible repeat (first | refine blk_drewN ?_ _ | refine blk_drew ?_ | refine blk_alloc ?_ _)); exact a1.out⟩
       replace HB := zA (zh2 hW_.symm (zW HB.out))
       clear hW_
       replace a1 := zA (blk_drew a1.out)
       replace HB := zA (below_drew1 HB.out)
       have b4 : 0 ≤ ((a3) : Int) := zD
       have b5 : (a3) < (l0.length : Int) := zD
       obtain ⟨c3, c4, a9, b0⟩ := at_T30 b6.out (a3) b4 b5
       have b1 := b0
       have b2 := a9
       obtain rfl : a6 = c3 := (by injection c4)
       replace a9 := zx HB a9
       replace b0 := zx HB b0
       replace b4 := eq_true b4
       replace b5 := eq_true b5
       refine start_ (n := 18) (S := fun w' => w'.cell? ⟨a2, 0, none⟩ = some (.string ((rd_T30 l0 a0).f0)) ∧ w'.cell? ⟨a2, 1, none⟩ = some (.string ((rd_T30 l0 a0).f1)) ∧ w'.cell? (a6.add (((a3)).toNat * 2)) = some (.string ((rd_T30 l0 (a3)).f0)) ∧ w'.cell? ⟨(a6.add (((a3)).toNat * 2)).block, (a6.add (((a3)).toNat * 2)).off + 1, none⟩ = some (.string ((rd_T30 l0 (a3)).f1))) (ds := []) (Array.replicate 18 false) (by kernel_rfl) rfl rfl ⟨(blk_cell a1.out 0).trans rfl, (blk_cell a1.out 1).trans rfl, ((HB.out.cell (World.block_lt_of_cell? w _ b2)).trans b2), ((HB.out.cell (World.block_lt_of_cell? w _ b1)).trans b1)⟩ (fun hHeld => ?_); refine with_tabW impl_needsOk.tab4 impl_needsOk.bits4 (fun HT_ HW_ => ?_)
       generalize c9.drew = f8 at a1 HB a9 b0 hHeld ⊢
       refine zt 0 12 ?_
       refine zo 1 (some 13) fun K hK => ?_
       refine goes_ Tryz.func116 (by kernel_rfl) rfl #[.agg #[.string ((rd_T30 l0 a0).f0), .string ((rd_T30 l0 a0).f1)]] (by rfl) rfl rfl zM ?_
       with_reducible refine (impl_needOk.calls k1 ((rd_T30 l0 a0).f0) ((rd_T30 l0 a0).f1) true _ ?side1 A5.out).mono ?_
       (case side1 => exact GW.below HG.out (zW HB.out))
       rintro e f9 ⟨rfl, hb⟩
       refine ⟨_, rfl, ?_⟩
       replace a1 := zb a1 hb
       replace HB := zh HB hb
       (try clear hb)
       refine hK.out _ _ ⟨(blk_cell a1.out 0).trans rfl, (blk_cell a1.out 1).trans rfl, ((HB.out.cell (World.block_lt_of_cell? w _ b2)).trans b2), ((HB.out.cell (World.block_lt_of_cell? w _ b1)).trans b1)⟩ (fun hHeld => ?_)
       clear hK K
       refine zn ?_
       refine zp 2 14 ?_
       refine zp 3 15 ?_
       refine zp 4 16 ?_
       refine zp 5 17 ?_
       refine zp 6 18 ?_
       refine zp 7 19 ?_
       refine zp 9 21 ?_
       refine zp 10 22 ?_
       refine zp 11 23 ?_
       refine zp 12 24 ?_
       refine zp 13 25 ?_
       refine zt 8 20 ?_
       refine zt 14 26 ?_
       refine zp 15 27 ?_
       refine zp 16 28 ?_
       refine zp 17 29 ?_
       refine done_ (done_of HT_.out (by kernel_rfl)) ?_
       try go_wp2
       go_ret
       exact ⟨by first | rfl | (simp [errW_none, errW_some] <;> rfl) | (simp only [← b7]; first | rfl | (simp [errW_none, errW_some] <;> rfl)) | (simp [*, errW_none, errW_some] <;> rfl), zW HB.out⟩
     ·have d3 : decide (0 < a0) = false := decide_eq_false c7
      clear c7
      have H' := Aside0.mk H
      clear H
      have a4 : 0 ≤ (a0 : Int) := zD
      have a5 : a0 < (l0.length : Int) := zD
      obtain ⟨a6, b3, a7, a8⟩ := at_T30 b6.out a0 a4 a5
      cases b3
      replace a7 := zx HB a7
      replace a8 := zx HB a8
      replace a4 := eq_true a4
      replace a5 := eq_true a5
      try go_wp2_with (first | ((with_reducible refine zd 4 ?_); refine ze 4 30 #[.string (⟨#[]⟩ : ByteArray), .string (⟨#[]⟩ : ByteArray)] ?_; intro a2 hg d7 hbox hb; have a1 := zA (hbox); have c1 := zi HB hg; have c2 := zi HB hg; replace HB := zA (below_step (zB) hb); clear hb hbox hg; obtain ⟨g0, g1, g2, g3⟩ := ze2 a1.out))
      generalize hW_ : ((d7.setCell ⟨a2, 0, none⟩ (.string ((rd_T30 l0 a0).f0))).setCell ⟨a2, 1, none⟩ (.string ((rd_T30 l0 a0).f1))) = d0
      replace a1 : Aside0 (d0.heap[a2]? = some (.cells #[.string ((rd_T30 l0 a0).f0), .string ((rd_T30 l0 a0).f1)] 30 (0, 0))) := ⟨by subst hW_; (with_reducible repeat (first | refine blk_drewN ?_ _ | refine blk_drew ?_ | refine blk_alloc ?_ _)); refine blk_put (cs := #[.string ((rd_T30 l0 a0).f0), .string (⟨#[]⟩ : ByteArray)]) ?_ 1 _ rfl; (with_reducible repeat (first | refine blk_drewN ?_ _ | refine blk_drew ?_ | refine blk_alloc ?_ _)); refine blk_put (cs := #[.string (⟨#[]⟩ : ByteArray), .string (⟨#[]⟩ : ByteArray)]) ?_ 0 _ rfl; (with_reducible repeat (first | refine blk_drewN ?_ _ | refine blk_drew ?_ | refine blk_alloc ?_ _)); exact a1.out⟩
      replace HB := zA (zh2 hW_.symm (zW HB.out))
      clear hW_
      replace a1 := zA (blk_drew a1.out)
      replace HB := zA (below_drew1 HB.out)
      refine start_ (n := 18) (S := fun w' => w'.cell? ⟨a2, 0, none⟩ = some (.string ((rd_T30 l0 a0).f0)) ∧ w'.cell? ⟨a2, 1, none⟩ = some (.string ((rd_T30 l0 a0).f1))) (ds := []) (Array.replicate 18 false) (by kernel_rfl) rfl rfl zO fun hHeld => ?_; refine with_tabW impl_needsOk.tab4 impl_needsOk.bits4 (fun HT_ HW_ => ?_)
      generalize d0.drew = g4 at a1 HB hHeld ⊢
      refine zt 0 12 ?_
      refine zo 1 (some 13) fun K hK => ?_
      refine goes_ Tryz.func116 (by kernel_rfl) rfl #[.agg #[.string ((rd_T30 l0 a0).f0), .string ((rd_T30 l0 a0).f1)]] (by rfl) rfl rfl zM ?_
      with_reducible refine (impl_needOk.calls k1 ((rd_T30 l0 a0).f0) ((rd_T30 l0 a0).f1) true _ ?side1 A5.out).mono ?_
      (case side1 => exact GW.below HG.out (zW HB.out))
      rintro e g5 ⟨rfl, hb⟩
      refine ⟨_, rfl, ?_⟩
      replace a1 := zb a1 hb
      replace HB := zh HB hb
      (try clear hb)
      refine hK.out _ _ zO fun hHeld => ?_
      clear hK K
      refine zn ?_
      refine zp 2 14 ?_
      refine zp 3 15 ?_
      refine zp 4 16 ?_
      refine zp 5 17 ?_
      refine zp 6 18 ?_
      refine zu 7 19 ?_
      refine zu 8 20 ?_
      refine zu 9 21 ?_
      refine zu 10 22 ?_
      refine zu 11 23 ?_
      refine zu 12 24 ?_
      refine zu 13 25 ?_
      refine zu 14 26 ?_
      refine zu 15 27 ?_
      refine zp 16 28 ?_
      refine zp 17 29 ?_
      refine done_ (done_of HT_.out (by kernel_rfl)) ?_
      try go_wp2
      go_roundg k1
      case measure => have := b9.out; omega
      case rel => exact ⟨(wrap64 (a0 + 1)), zS, H', ⟨by have := b9.out; omega⟩, ⟨zW HB.out⟩⟩
    ·obtain rfl := Option.some.inj H
     have a4 : 0 ≤ (a0 : Int) := zD
     have a5 : a0 < (l0.length : Int) := zD
     obtain ⟨a6, b3, a7, a8⟩ := at_T30 b6.out a0 a4 a5
     cases b3
     replace a7 := zx HB a7
     replace a8 := zx HB a8
     replace a4 := eq_true a4
     replace a5 := eq_true a5
     try go_wp2_with (first | ((with_reducible refine zd 4 ?_); refine ze 4 30 #[.string (⟨#[]⟩ : ByteArray), .string (⟨#[]⟩ : ByteArray)] ?_; intro a2 hg d8 hbox hb; have a1 := zA (hbox); have c1 := zi HB hg; have c2 := zi HB hg; replace HB := zA (below_step (zB) hb); clear hb hbox hg; obtain ⟨g6, g7, g8, g9⟩ := ze2 a1.out))
     generalize hW_ : ((d8.setCell ⟨a2, 0, none⟩ (.string ((rd_T30 l0 a0).f0))).setCell ⟨a2, 1, none⟩ (.string ((rd_T30 l0 a0).f1))) = d1
     replace a1 : Aside0 (d1.heap[a2]? = some (.cells #[.string ((rd_T30 l0 a0).f0), .string ((rd_T30 l0 a0).f1)] 30 (0, 0))) := ⟨by subst hW_; (with_reducible repeat (first | refine blk_drewN ?_ _ | refine blk_drew ?_ | refine blk_alloc ?_ _)); refine blk_put (cs := #[.string ((rd_T30 l0 a0).f0), .string (⟨#[]⟩ : ByteArray)]) ?_ 1 _ rfl; (with_reducible repeat (first | refine blk_drewN ?_ _ | refine blk_drew ?_ | refine blk_alloc ?_ _)); refine blk_put (cs := #[.string (⟨#[]⟩ : ByteArray), .string (⟨#[]⟩ : ByteArray)]) ?_ 0 _ rfl; (with_reducible repeat (first | refine blk_drewN ?_ _ | refine blk_drew ?_ | refine blk_alloc ?_ _)); exact a1.out⟩
     replace HB := zA (zh2 hW_.symm (zW HB.out))
     clear hW_
     replace a1 := zA (blk_drew a1.out)
     replace HB := zA (below_drew1 HB.out)
     refine start_ (n := 18) (S := fun w' => w'.cell? ⟨a2, 0, none⟩ = some (.string ((rd_T30 l0 a0).f0)) ∧ w'.cell? ⟨a2, 1, none⟩ = some (.string ((rd_T30 l0 a0).f1))) (ds := []) (Array.replicate 18 false) (by kernel_rfl) rfl rfl zO fun hHeld => ?_; refine with_tabW impl_needsOk.tab4 impl_needsOk.bits4 (fun HT_ HW_ => ?_)
     generalize d1.drew = h0 at a1 HB hHeld ⊢
     refine zt 0 12 ?_
     refine zo 1 (some 13) fun K hK => ?_
     refine goes_ Tryz.func116 (by kernel_rfl) rfl #[.agg #[.string ((rd_T30 l0 a0).f0), .string ((rd_T30 l0 a0).f1)]] (by rfl) rfl rfl zM ?_
     with_reducible refine (impl_needOk.calls k1 ((rd_T30 l0 a0).f0) ((rd_T30 l0 a0).f1) false _ ?side1 A5.out).mono ?_
     (case side1 => exact GW.below HG.out (zW HB.out))
     rintro e h1 ⟨rfl, hb⟩
     refine ⟨_, rfl, ?_⟩
     replace a1 := zb a1 hb
     replace HB := zh HB hb
     (try clear hb)
     refine hK.out _ _ zO fun hHeld => ?_
     clear hK K
     refine zn ?_
     refine zp 2 14 ?_
     refine zp 3 15 ?_
     refine zu 4 16 ?_
     refine zu 5 17 ?_
     refine zu 6 18 ?_
     refine zu 7 19 ?_
     refine zu 8 20 ?_
     refine zu 9 21 ?_
     refine zu 10 22 ?_
     refine zu 11 23 ?_
     refine zu 12 24 ?_
     refine zu 13 25 ?_
     refine zu 14 26 ?_
     refine zu 15 27 ?_
     refine zu 16 28 ?_
     refine zp 17 29 ?_
     refine done_ (done_of HT_.out (by kernel_rfl)) ?_
     try go_wp2
     go_ret
     exact ⟨zE, zW HB.out⟩
   ·obtain rfl := Option.some.inj H
    go_wp2
    go_ret
    exact ⟨zE, zB⟩
end Go.Proofs.YtpcdhoeoefoeoaaGreatDoor.PGC
