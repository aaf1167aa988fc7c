/- The walks of the functions that these laws reach, and what each comes to: printed by this session's program. -/
import Derived.Test.YtpcdhoeoefoeoaaGreatDoorZGDPGDx0
import Derived.Test.YtpcdhoeoefoeoaaGreatDoorZGDPGDx18
import Derived.Test.YtpcdhoeoefoeoaaGreatDoorZGDSays
import Derived.Test.YtpcdhoeoefoeoaaGreatDoorZGDRegs
import Derived.Test.YtpcdhoeoefoeoaaGreatDoorZGDPGDx12
namespace Go.Proofs.YtpcdhoeoefoeoaaGreatDoor.PGD
open Go.RowKit YtpcdhoeoefoeoaaGreatDoorW.PrintWords YtpcdhoeoefoeoaaGreatDoorW.PrintLast YtpcdhoeoefoeoaaGreatDoorW.PrintMore
attribute [local go_sem high] Mine.str_gtr Mine.str_leq Mine.str_geq
attribute [local go_sem] max2_int min2_int max_two min_two max_three min_three max_four min_four   -- for this text's walks alone
set_option linter.unusedVariables false
set_option maxHeartbeats 8000000
set_option maxRecDepth 100000
set_option linter.unusedSimpArgs false
/-! ### impl_needsOk: function 64 -/
def impl_needsOk.l0 : Nat → List (S30) → List (S30) → Int → Int → Option (Bool)
 | 0, _, _, _, _ => none
 | k + 1, x0, x5, x6, x7 => if x7 < x6 then (if 0 ≤ x7 then (if x7 < (x5.length : Int) then ((impl_needOk.f k ((rd_T30 x5 x7).f0) ((rd_T30 x5 x7).f1)).bind fun a0 => (if a0 = true then (if x7 > 0 then (if 0 ≤ (wrap64 (x7 - 1)) then (if (wrap64 (x7 - 1)) < (x0.length : Int) then (if ((Op.bytesLess (((rd_T30 x0 (wrap64 (x7 - 1))).f0).toList) (((rd_T30 x5 x7).f0).toList)) = true) then (impl_needsOk.l0 k x0 x5 x6 (wrap64 (x7 + 1))) else (some false)) else (none)) else (none)) else (impl_needsOk.l0 k x0 x5 x6 (wrap64 (x7 + 1)))) else (some false))) else (none)) else (none)) else (some (decide ((x0.length : Int) ≤ 4)))
def impl_needsOk.f (k : Nat) (l0 : List (S30)) : Option (Bool) := impl_needsOk.l0 k l0 l0 (l0.length : Int) 0
def impl_needsOk.T4 : Bool × List (List Nat × List Nat) := (true, [([], []), ([0], [0]), ([1], [1]), ([2, 1], [2]), ([3], [3]), ([4, 3], [3, 4]), ([5, 3, 3], [3, 5]), ([6], [6]), ([7, 6], [6, 7]), ([6], [6]), ([6], [6]), ([10, 6], [6, 10]), ([9, 11, 6], [6, 9, 11]), ([12, 6], [6, 12]), ([13, 6], [6, 13]), ([8, 14, 6], [6, 8, 14]), ([6, 15, 3], [3, 6, 15]), ([3, 16], [3, 16])])
def impl_needsOk.B4 : List Nat := [0, 1, 3, 7, 15, 31, 63, 127, 255, 127, 127, 1151, 3711, 7807, 15999, 32767, 65535, 131071]
theorem impl_needsOk.tab4 : rtab .any (opsOf Tryz.f64 4) = impl_needsOk.T4 := by kernel_rfl
theorem impl_needsOk.bits4 : waitsOk impl_needsOk.T4.2 impl_needsOk.B4 = true := by kernel_rfl
theorem impl_needsOk.calls (k : Nat) (A0 : Option Addr) (c0 : Nat) (l0 : List (S30)) (r : Bool) (w : World) (c3 : Kd.C k30 w A0 l0.length l0) (c4 : l0.length ≤ c0) (hG : GW w) (h : impl_needsOk.f k l0 = some r) :
  Calls Tryz.prog 64 #[.slice A0 l0.length c0] w fun e w' => e = .returned (.bool r) ∧ Below w.heap.size w w' := by
 have e0 := Tryz.underlying30
 have b4 := zA c3
 have e1 := zA c4
 clear c3 c4
 have HG := zA hG
 clear hG
 have HB := zA (Below.refl w.heap.size w)
 unfold impl_needsOk.f at h
 have H := h
 clear h
 have H' := zA H
 clear H
 go_enter Tryz.func64, Tryz.ntmps64
 go_wp2
 go_loopg [7] k (fun kq v7 w' => ∃ (a0 : Int), v7 = .int .i64 a0 ∧ Aside0 (impl_needsOk.l0 kq l0 l0 (l0.length : Int) a0 = some r) ∧ Aside0 (kq ≤ k) ∧ Aside0 (Below w.heap.size w w'))
 case atStart => exact ⟨(0), zS, H', ⟨Nat.le_refl _⟩, ⟨zB⟩⟩
 case round =>
  clear H'
  obtain ⟨a0, rfl, HA, b7, HB⟩ := hrel
  cases gk with
  | zero => exact absurd HA.out (by simp [impl_needsOk.l0])
  | succ k1 =>
   have H := HA.out
   clear HA
   simp only [impl_needsOk.l0] at H
   replace H := zI0 H
   rcases H with ⟨d1, H⟩ | ⟨d1, H⟩
   ·replace H := zD0 H
    obtain ⟨e2, H⟩ := H
    replace H := zD0 H
    obtain ⟨e3, H⟩ := H
    replace H := Option.bind_eq_some_iff.mp H
    obtain ⟨e4, c5, H⟩ := H
    try dsimp only at H
    have A5 := zA c5
    clear c5
    replace H := zB0 H
    rcases H with ⟨rfl, H⟩ | ⟨rfl, H⟩
    ·replace H := zI1 H
     rcases H with ⟨c7, H⟩ | ⟨c7, H⟩
     ·have d2 : decide (0 < a0) = true := decide_eq_true c7
      clear c7
      obtain ⟨a3, b5⟩ : ∃ j_ : Int, (wrap64 (a0 - 1)) = j_ := ⟨_, rfl⟩
      replace H : (if 0 ≤ (a3) then (if (a3) < (l0.length : Int) then (if ((Op.bytesLess (((rd_T30 l0 (a3)).f0).toList) (((rd_T30 l0 a0).f0).toList)) = true) then (impl_needsOk.l0 k1 l0 l0 (l0.length : Int) (wrap64 (a0 + 1))) else (some false)) else (none)) else (none)) = some r := by first | (rw [b5] at H; exact H) | (simp only [b5] at H ⊢; exact H)
      (try rw [b5] at A5)
      have hji8w : (IntKind.i64.wrap (a0 - 1)) = a3 := (i64_w _).trans b5
      replace H := zD0 H
      obtain ⟨e5, H⟩ := H
      replace H := zD0 H
      obtain ⟨e6, H⟩ := H
      replace H := zI1 H
      rcases H with ⟨b6, H⟩ | ⟨b6, H⟩
      ·have d3 : (Op.bytesLess (((rd_T30 l0 (a3)).f0).toList) (((rd_T30 l0 a0).f0).toList)) = true := b6
       clear b6
       have H' := zA H
       clear H
       have a4 : 0 ≤ (a0 : Int) := zD
       have a5 : a0 < (l0.length : Int) := zD
       obtain ⟨a6, b1, a7, a8⟩ := at_T30 b4.out a0 a4 a5
       cases b1
       replace a7 := zx HB a7
       replace a8 := zx HB a8
       replace a4 := eq_true a4
       replace a5 := eq_true a5
       try go_wp2_with (first | ((with_reducible refine zd 4 ?_); refine ze 4 30 #[.string (⟨#[]⟩ : ByteArray), .string (⟨#[]⟩ : ByteArray)] ?_; intro a2 hg d4 hbox hb; have a1 := zA (hbox); have b8 := zi HB hg; have b9 := zi HB hg; replace HB := zA (below_step (zB) hb); clear hb hbox hg; obtain ⟨e7, e8, e9, f2⟩ := ze2 a1.out))
       generalize hW_ : ((d4.setCell ⟨a2, 0, none⟩ (.string ((rd_T30 l0 a0).f0))).setCell ⟨a2, 1, none⟩ (.string ((rd_T30 l0 a0).f1))) = c6
       replace a1 : Aside0 (c6.heap[a2]? = some (.cells #[.string ((rd_T30 l0 a0).f0), .string ((rd_T30 l0 a0).f1)] 30 (0, 0))) := ⟨by subst hW_; (with_reducible repeat (first | refine blk_drewN ?_ _ | refine blk_drew ?_ | refine blk_alloc ?_ _)); refine blk_put (cs := #[.string ((rd_T30 l0 a0).f0), .string (⟨#[]⟩ : ByteArray)]) ?_ 1 _ rfl; (with_reducible repeat (first | refine blk_drewN ?_ _ | refine blk_drew ?_ | refine blk_alloc ?_ _)); refine blk_put (cs := #[.string (⟨#[]⟩ : ByteArray), .string (⟨#[]⟩ : ByteArray)]) ?_ 0 _ rfl; (with_reducible repeat (first | refine blk_drewN ?_ _ | refine blk_drew ?_ | refine blk_alloc ?_ _)); exact a1.out⟩
       replace HB := zA (zh2 hW_.symm (zW HB.out))
       clear hW_
       replace a1 := zA (blk_drew a1.out)
       replace HB := zA (below_drew1 HB.out)
       have b2 : 0 ≤ ((a3) : Int) := zD
       have b3 : (a3) < (l0.length : Int) := zD
       obtain ⟨c1, c2, a9, b0⟩ := at_T30 b4.out (a3) b2 b3
       have d5 := b0
       have d6 := a9
       obtain rfl : a6 = c1 := (by injection c2)
       replace a9 := zx HB a9
       replace b0 := zx HB b0
       replace b2 := eq_true b2
       replace b3 := eq_true b3
       refine start_ (n := 18) (S := fun w' => w'.cell? ⟨a2, 0, none⟩ = some (.string ((rd_T30 l0 a0).f0)) ∧ w'.cell? ⟨a2, 1, none⟩ = some (.string ((rd_T30 l0 a0).f1)) ∧ w'.cell? (a6.add (((a3)).toNat * 2)) = some (.string ((rd_T30 l0 (a3)).f0)) ∧ w'.cell? ⟨(a6.add (((a3)).toNat * 2)).block, (a6.add (((a3)).toNat * 2)).off + 1, none⟩ = some (.string ((rd_T30 l0 (a3)).f1))) (ds := []) (Array.replicate 18 false) (by kernel_rfl) rfl rfl zO fun hHeld => ?_; refine with_tabW impl_needsOk.tab4 impl_needsOk.bits4 (fun HT_ HW_ => ?_)
       generalize c6.drew = f3 at a1 HB a9 b0 hHeld ⊢
       refine zt 0 12 ?_
       refine zo 1 (some 13) fun K hK => ?_
       refine goes_ Tryz.func116 (by kernel_rfl) rfl #[.agg #[.string ((rd_T30 l0 a0).f0), .string ((rd_T30 l0 a0).f1)]] (by rfl) rfl rfl zM ?_
       with_reducible refine (impl_needOk.calls k1 ((rd_T30 l0 a0).f0) ((rd_T30 l0 a0).f1) true _ ?s1 A5.out).mono ?_
       (case s1 => exact GW.below HG.out (zW HB.out))
       rintro e f4 ⟨rfl, hb⟩
       refine ⟨_, rfl, ?_⟩
       replace a1 := zb a1 hb
       replace HB := zh HB hb
       (try clear hb)
       refine hK.out _ _ zO fun hHeld => ?_
       clear hK K
       refine zn ?_
       refine zp 2 14 ?_
       refine zp 3 15 ?_
       refine zp 4 16 ?_
       refine zp 5 17 ?_
       refine zp 6 18 ?_
       refine zp 7 19 ?_
       refine zp 9 21 ?_
       refine zp 10 22 ?_
       refine zp 11 23 ?_
       refine zp 12 24 ?_
       refine zp 13 25 ?_
       refine zt 8 20 ?_
       refine zt 14 26 ?_
       refine zp 15 27 ?_
       refine zp 16 28 ?_
       refine zp 17 29 ?_
       refine done_ (done_of HT_.out (by kernel_rfl)) ?_
       try go_wp2
       go_roundg k1
       case measure => have := b7.out; omega
       case rel => exact ⟨(wrap64 (a0 + 1)), zS, H', ⟨by have := b7.out; omega⟩, ⟨zW HB.out⟩⟩
      ·have d3 : (Op.bytesLess (((rd_T30 l0 (a3)).f0).toList) (((rd_T30 l0 a0).f0).toList)) = false := by simpa using b6
       clear b6
       obtain rfl := zm H
       have a4 : 0 ≤ (a0 : Int) := zD
       have a5 : a0 < (l0.length : Int) := zD
       obtain ⟨a6, b1, a7, a8⟩ := at_T30 b4.out a0 a4 a5
       cases b1
       replace a7 := zx HB a7
       replace a8 := zx HB a8
       replace a4 := eq_true a4
       replace a5 := eq_true a5
       try go_wp2_with (first | ((with_reducible refine zd 4 ?_); refine ze 4 30 #[.string (⟨#[]⟩ : ByteArray), .string (⟨#[]⟩ : ByteArray)] ?_; intro a2 hg d7 hbox hb; have a1 := zA (hbox); have b8 := zi HB hg; have b9 := zi HB hg; replace HB := zA (below_step (zB) hb); clear hb hbox hg; obtain ⟨f5, f6, f7, f8⟩ := ze2 a1.out))
       generalize hW_ : ((d7.setCell ⟨a2, 0, none⟩ (.string ((rd_T30 l0 a0).f0))).setCell ⟨a2, 1, none⟩ (.string ((rd_T30 l0 a0).f1))) = c8
       replace a1 : Aside0 (c8.heap[a2]? = some (.cells #[.string ((rd_T30 l0 a0).f0), .string ((rd_T30 l0 a0).f1)] 30 (0, 0))) := ⟨by subst hW_; (with_reducible repeat (first | refine blk_drewN ?_ _ | refine blk_drew ?_ | refine blk_alloc ?_ _)); refine blk_put (cs := #[.string ((rd_T30 l0 a0).f0), .string (⟨#[]⟩ : ByteArray)]) ?_ 1 _ rfl; (with_reducible repeat (first | refine blk_drewN ?_ _ | refine blk_drew ?_ | refine blk_alloc ?_ _)); refine blk_put (cs := #[.string (⟨#[]⟩ : ByteArray), .string (⟨#[]⟩ : ByteArray)]) ?_ 0 _ rfl; (with_reducible repeat (first | refine blk_drewN ?_ _ | refine blk_drew ?_ | refine blk_alloc ?_ _)); exact a1.out⟩
       replace HB := zA (zh2 hW_.symm (zW HB.out))
       clear hW_
       replace a1 := zA (blk_drew a1.out)
       replace HB := zA (below_drew1 HB.out)
       have b2 : 0 ≤ ((a3) : Int) := zD
       have b3 : (a3) < (l0.length : Int) := zD
       obtain ⟨c1, c2, a9, b0⟩ := at_T30 b4.out (a3) b2 b3
       have d5 := b0
       have d6 := a9
       obtain rfl : a6 = c1 := (by injection c2)
       replace a9 := zx HB a9
       replace b0 := zx HB b0
       replace b2 := eq_true b2
       replace b3 := eq_true b3
       refine start_ (n := 18) (S := fun w' => w'.cell? ⟨a2, 0, none⟩ = some (.string ((rd_T30 l0 a0).f0)) ∧ w'.cell? ⟨a2, 1, none⟩ = some (.string ((rd_T30 l0 a0).f1)) ∧ w'.cell? (a6.add (((a3)).toNat * 2)) = some (.string ((rd_T30 l0 (a3)).f0)) ∧ w'.cell? ⟨(a6.add (((a3)).toNat * 2)).block, (a6.add (((a3)).toNat * 2)).off + 1, none⟩ = some (.string ((rd_T30 l0 (a3)).f1))) (ds := []) (Array.replicate 18 false) (by kernel_rfl) rfl rfl zO fun hHeld => ?_; refine with_tabW impl_needsOk.tab4 impl_needsOk.bits4 (fun HT_ HW_ => ?_)
       generalize c8.drew = f9 at a1 HB a9 b0 hHeld ⊢
       refine zt 0 12 ?_
       refine zo 1 (some 13) fun K hK => ?_
       refine goes_ Tryz.func116 (by kernel_rfl) rfl #[.agg #[.string ((rd_T30 l0 a0).f0), .string ((rd_T30 l0 a0).f1)]] (by rfl) rfl rfl zM ?_
       with_reducible refine (impl_needOk.calls k1 ((rd_T30 l0 a0).f0) ((rd_T30 l0 a0).f1) true _ ?s1 A5.out).mono ?_
       (case s1 => exact GW.below HG.out (zW HB.out))
       rintro e g0 ⟨rfl, hb⟩
       refine ⟨_, rfl, ?_⟩
       replace a1 := zb a1 hb
       replace HB := zh HB hb
       (try clear hb)
       refine hK.out _ _ zO fun hHeld => ?_
       clear hK K
       refine zn ?_
       refine zp 2 14 ?_
       refine zp 3 15 ?_
       refine zp 4 16 ?_
       refine zp 5 17 ?_
       refine zp 6 18 ?_
       refine zp 7 19 ?_
       refine zp 9 21 ?_
       refine zp 10 22 ?_
       refine zp 11 23 ?_
       refine zp 12 24 ?_
       refine zp 13 25 ?_
       refine zt 8 20 ?_
       refine zt 14 26 ?_
       refine zp 15 27 ?_
       refine zp 16 28 ?_
       refine zp 17 29 ?_
       refine done_ (done_of HT_.out (by kernel_rfl)) ?_
       try go_wp2
       go_ret
       exact ⟨by first | rfl | (simp [errW_none, errW_some] <;> rfl) | (simp only [← b5]; first | rfl | (simp [errW_none, errW_some] <;> rfl)) | (simp [*, errW_none, errW_some] <;> rfl), zW HB.out⟩
     ·have d2 : decide (0 < a0) = false := decide_eq_false c7
      clear c7
      have H' := zA H
      clear H
      have a4 : 0 ≤ (a0 : Int) := zD
      have a5 : a0 < (l0.length : Int) := zD
      obtain ⟨a6, b1, a7, a8⟩ := at_T30 b4.out a0 a4 a5
      cases b1
      replace a7 := zx HB a7
      replace a8 := zx HB a8
      replace a4 := eq_true a4
      replace a5 := eq_true a5
      try go_wp2_with (first | ((with_reducible refine zd 4 ?_); refine ze 4 30 #[.string (⟨#[]⟩ : ByteArray), .string (⟨#[]⟩ : ByteArray)] ?_; intro a2 hg d8 hbox hb; have a1 := zA (hbox); have b8 := zi HB hg; have b9 := zi HB hg; replace HB := zA (below_step (zB) hb); clear hb hbox hg; obtain ⟨g1, g2, g3, g4⟩ := ze2 a1.out))
      generalize hW_ : ((d8.setCell ⟨a2, 0, none⟩ (.string ((rd_T30 l0 a0).f0))).setCell ⟨a2, 1, none⟩ (.string ((rd_T30 l0 a0).f1))) = c9
      replace a1 : Aside0 (c9.heap[a2]? = some (.cells #[.string ((rd_T30 l0 a0).f0), .string ((rd_T30 l0 a0).f1)] 30 (0, 0))) := ⟨by subst hW_; (with_reducible repeat (first | refine blk_drewN ?_ _ | refine blk_drew ?_ | refine blk_alloc ?_ _)); refine blk_put (cs := #[.string ((rd_T30 l0 a0).f0), .string (⟨#[]⟩ : ByteArray)]) ?_ 1 _ rfl; (with_reducible repeat (first | refine blk_drewN ?_ _ | refine blk_drew ?_ | refine blk_alloc ?_ _)); refine blk_put (cs := #[.string (⟨#[]⟩ : ByteArray), .string (⟨#[]⟩ : ByteArray)]) ?_ 0 _ rfl; (with_reducible repeat (first | refine blk_drewN ?_ _ | refine blk_drew ?_ | refine blk_alloc ?_ _)); exact a1.out⟩
      replace HB := zA (zh2 hW_.symm (zW HB.out))
      clear hW_
      replace a1 := zA (blk_drew a1.out)
      replace HB := zA (below_drew1 HB.out)
      refine start_ (n := 18) (S := fun w' => w'.cell? ⟨a2, 0, none⟩ = some (.string ((rd_T30 l0 a0).f0)) ∧ w'.cell? ⟨a2, 1, none⟩ = some (.string ((rd_T30 l0 a0).f1))) (ds := []) (Array.replicate 18 false) (by kernel_rfl) rfl rfl zO fun hHeld => ?_; refine with_tabW impl_needsOk.tab4 impl_needsOk.bits4 (fun HT_ HW_ => ?_)
      generalize c9.drew = g5 at a1 HB hHeld ⊢
      refine zt 0 12 ?_
      refine zo 1 (some 13) fun K hK => ?_
      refine goes_ Tryz.func116 (by kernel_rfl) rfl #[.agg #[.string ((rd_T30 l0 a0).f0), .string ((rd_T30 l0 a0).f1)]] (by rfl) rfl rfl zM ?_
      with_reducible refine (impl_needOk.calls k1 ((rd_T30 l0 a0).f0) ((rd_T30 l0 a0).f1) true _ ?s1 A5.out).mono ?_
      (case s1 => exact GW.below HG.out (zW HB.out))
      rintro e g6 ⟨rfl, hb⟩
      refine ⟨_, rfl, ?_⟩
      replace a1 := zb a1 hb
      replace HB := zh HB hb
      (try clear hb)
      refine hK.out _ _ zO fun hHeld => ?_
      clear hK K
      refine zn ?_
      refine zp 2 14 ?_
      refine zp 3 15 ?_
      refine zp 4 16 ?_
      refine zp 5 17 ?_
      refine zp 6 18 ?_
      refine zu 7 19 ?_
      refine zu 8 20 ?_
      refine zu 9 21 ?_
      refine zu 10 22 ?_
      refine zu 11 23 ?_
      refine zu 12 24 ?_
      refine zu 13 25 ?_
      refine zu 14 26 ?_
      refine zu 15 27 ?_
      refine zp 16 28 ?_
      refine zp 17 29 ?_
      refine done_ (done_of HT_.out (by kernel_rfl)) ?_
      try go_wp2
      go_roundg k1
      case measure => have := b7.out; omega
      case rel => exact ⟨(wrap64 (a0 + 1)), zS, H', ⟨by have := b7.out; omega⟩, ⟨zW HB.out⟩⟩
    ·obtain rfl := zm H
     have a4 : 0 ≤ (a0 : Int) := zD
     have a5 : a0 < (l0.length : Int) := zD
     obtain ⟨a6, b1, a7, a8⟩ := at_T30 b4.out a0 a4 a5
     cases b1
     replace a7 := zx HB a7
     replace a8 := zx HB a8
     replace a4 := eq_true a4
     replace a5 := eq_true a5
     try go_wp2_with (first | ((with_reducible refine zd 4 ?_); refine ze 4 30 #[.string (⟨#[]⟩ : ByteArray), .string (⟨#[]⟩ : ByteArray)] ?_; intro a2 hg d9 hbox hb; have a1 := zA (hbox); have b8 := zi HB hg; have b9 := zi HB hg; replace HB := zA (below_step (zB) hb); clear hb hbox hg; obtain ⟨g7, g8, g9, h0⟩ := ze2 a1.out))
     generalize hW_ : ((d9.setCell ⟨a2, 0, none⟩ (.string ((rd_T30 l0 a0).f0))).setCell ⟨a2, 1, none⟩ (.string ((rd_T30 l0 a0).f1))) = d0
     replace a1 : Aside0 (d0.heap[a2]? = some (.cells #[.string ((rd_T30 l0 a0).f0), .string ((rd_T30 l0 a0).f1)] 30 (0, 0))) := ⟨by subst hW_; (with_reducible repeat (first | refine blk_drewN ?_ _ | refine blk_drew ?_ | refine blk_alloc ?_ _)); refine blk_put (cs := #[.string ((rd_T30 l0 a0).f0), .string (⟨#[]⟩ : ByteArray)]) ?_ 1 _ rfl; (with_reducible repeat (first | refine blk_drewN ?_ _ | refine blk_drew ?_ | refine blk_alloc ?_ _)); refine blk_put (cs := #[.string (⟨#[]⟩ : ByteArray), .string (⟨#[]⟩ : ByteArray)]) ?_ 0 _ rfl; (with_reducible repeat (first | refine blk_drewN ?_ _ | refine blk_drew ?_ | refine blk_alloc ?_ _)); exact a1.out⟩
     replace HB := zA (zh2 hW_.symm (zW HB.out))
     clear hW_
     replace a1 := zA (blk_drew a1.out)
     replace HB := zA (below_drew1 HB.out)
     refine start_ (n := 18) (S := fun w' => w'.cell? ⟨a2, 0, none⟩ = some (.string ((rd_T30 l0 a0).f0)) ∧ w'.cell? ⟨a2, 1, none⟩ = some (.string ((rd_T30 l0 a0).f1))) (ds := []) (Array.replicate 18 false) (by kernel_rfl) rfl rfl zO fun hHeld => ?_; refine with_tabW impl_needsOk.tab4 impl_needsOk.bits4 (fun HT_ HW_ => ?_)
     generalize d0.drew = h1 at a1 HB hHeld ⊢
     refine zt 0 12 ?_
     refine zo 1 (some 13) fun K hK => ?_
     refine goes_ Tryz.func116 (by kernel_rfl) rfl #[.agg #[.string ((rd_T30 l0 a0).f0), .string ((rd_T30 l0 a0).f1)]] (by rfl) rfl rfl zM ?_
     with_reducible refine (impl_needOk.calls k1 ((rd_T30 l0 a0).f0) ((rd_T30 l0 a0).f1) false _ ?s1 A5.out).mono ?_
     (case s1 => exact GW.below HG.out (zW HB.out))
     rintro e h2 ⟨rfl, hb⟩
     refine ⟨_, rfl, ?_⟩
     replace a1 := zb a1 hb
     replace HB := zh HB hb
     (try clear hb)
     refine hK.out _ _ zO fun hHeld => ?_
     clear hK K
     refine zn ?_
     refine zp 2 14 ?_
     refine zp 3 15 ?_
     refine zu 4 16 ?_
     refine zu 5 17 ?_
     refine zu 6 18 ?_
     refine zu 7 19 ?_
     refine zu 8 20 ?_
     refine zu 9 21 ?_
     refine zu 10 22 ?_
     refine zu 11 23 ?_
     refine zu 12 24 ?_
     refine zu 13 25 ?_
     refine zu 14 26 ?_
     refine zu 15 27 ?_
     refine zu 16 28 ?_
     refine zp 17 29 ?_
     refine done_ (done_of HT_.out (by kernel_rfl)) ?_
     try go_wp2
     go_ret
     exact ⟨zE, zW HB.out⟩
   ·obtain rfl := zm H
    go_wp2
    go_ret
    exact ⟨zE, zB⟩
/-! ### cmp_Or_int: function 137 -/
def cmp_Or_int.l0 : Nat → Int → List Int → Int → Int → Option (Int)
 | 0, _, _, _, _ => none
 | k + 1, x3, x6, x7, x8 => if x8 < x7 then (if 0 ≤ x8 then (if x8 < (x6.length : Int) then (if (rd x6 x8) = x3 then (cmp_Or_int.l0 k x3 x6 x7 (wrap64 (x8 + 1))) else (some (rd x6 x8))) else (none)) else (none)) else (some x3)
def cmp_Or_int.f (k : Nat) (l0 : List Int) : Option (Int) := cmp_Or_int.l0 k 0 l0 (l0.length : Int) 0
theorem cmp_Or_int.calls (k : Nat) (A0 : Option Addr) (c0 : Nat) (l0 : List Int) (r : Int) (w : World) (a4 : Kd.C (Kd.int .i64) w A0 l0.length l0) (a5 : l0.length ≤ c0) (h : cmp_Or_int.f k l0 = some r) :
  Calls Tryz.prog 137 #[.slice A0 l0.length c0] w fun e w' => e = .returned (.int .i64 r) ∧ Drawn0 w w' := by
 have a6 := zA a4
 have b3 := zA a5
 clear a4 a5
 unfold cmp_Or_int.f at h
 have H := h
 clear h
 have H' := zA H
 clear H
 go_enter Tryz.func137, Tryz.ntmps137
 go_wp2
 go_loopg [8] k (fun kq v8 w' => ∃ (a0 : Int), v8 = .int .i64 a0 ∧ Aside0 (cmp_Or_int.l0 kq 0 l0 (l0.length : Int) a0 = some r) ∧ Aside0 (kq ≤ k) ∧ Drawn0 w w')
 case atStart => exact ⟨(0), zS, H', ⟨Nat.le_refl _⟩, by repeat (first | exact Drawn0.refl _ | apply Drawn0.step)⟩
 case round =>
  clear H'
  try clear c1
  obtain ⟨a0, rfl, HA, a7, ⟨m1, rfl⟩⟩ := hrel
  cases gk with
  | zero => exact absurd HA.out (by simp [cmp_Or_int.l0])
  | succ k1 =>
   have H := HA.out
   clear HA
   simp only [cmp_Or_int.l0] at H
   replace H := zI0 H
   rcases H with ⟨a8, H⟩ | ⟨a8, H⟩
   ·replace H := zD0 H
    obtain ⟨b4, H⟩ := H
    replace H := zD0 H
    obtain ⟨b5, H⟩ := H
    replace H := zI1 H
    rcases H with ⟨c5, H⟩ | ⟨c5, H⟩
    ·have a9 := beq_iff_eq.mpr c5
     have b0 := bne_eq_false_iff_eq.mpr c5
     clear c5
     have H' := zA H
     clear H
     have a1 : 0 ≤ (a0 : Int) := zD
     have a2 : a0 < (l0.length : Int) := zD
     obtain ⟨b1, a3, b2⟩ := Kd.at_int a6.out a0 a1 a2
     cases a3
     replace a1 := eq_true a1
     replace a2 := eq_true a2
     go_wp2
     go_roundg k1
     case measure => have := a7.out; omega
     case rel => exact ⟨(wrap64 (a0 + 1)), zS, H', ⟨by have := a7.out; omega⟩, by repeat (first | exact Drawn0.refl _ | apply Drawn0.step)⟩
    ·have a9 := beq_eq_false_iff_ne.mpr c5
     have b0 := bne_iff_ne.mpr c5
     obtain rfl := zm H
     have a1 : 0 ≤ (a0 : Int) := zD
     have a2 : a0 < (l0.length : Int) := zD
     obtain ⟨b1, a3, b2⟩ := Kd.at_int a6.out a0 a1 a2
     cases a3
     replace a1 := eq_true a1
     replace a2 := eq_true a2
     go_wp2
     go_ret
     exact ⟨by first | rfl | (simp; done) | (simp [*]; done) | (simp; rw [Bool.eq_iff_iff]; simp; done), by repeat (first | exact Drawn0.refl _ | apply Drawn0.step)⟩
   ·obtain rfl := zm H
    go_wp2
    go_ret
    exact ⟨by first | rfl | (simp; done) | (simp [*]; done) | (simp; rw [Bool.eq_iff_iff]; simp; done), by repeat (first | exact Drawn0.refl _ | apply Drawn0.step)⟩
/-! ### cmp_isNaN_int: function 171 -/
def cmp_isNaN_int.f (a0 : Int) : Option (Bool) := some (a0 != a0)
theorem cmp_isNaN_int.calls (a0 : Int) (r : Bool) (w : World) (h : cmp_isNaN_int.f a0 = some r) :
  Calls Tryz.prog 171 #[.int .i64 a0] w fun e w' => e = .returned (.bool r) ∧ Drawn0 w w' := by
 unfold cmp_isNaN_int.f at h
 have H := h
 clear h
 obtain rfl := zm H
 go_enter Tryz.func171, Tryz.ntmps171
 go_wp2
 go_ret
 exact ⟨by first | rfl | (simp; done) | (simp [*]; done) | (simp; rw [Bool.eq_iff_iff]; simp; done), by repeat (first | exact Drawn0.refl _ | apply Drawn0.step)⟩
/-! ### cmp_Compare_int: function 138 -/
mutual
def cmp_Compare_int.j0 : Nat → Int → Int → Bool → Option (Int)
 | 0, _, _, _ => none
 | k + 1, x0, x1, x6 => if x6 = true then (some 1) else (cmp_Compare_int.j1 k x0 x1)
def cmp_Compare_int.j1 : Nat → Int → Int → Option (Int)
 | 0, _, _ => none
 | k + 1, x0, x1 => if x0 < x1 then (some (-1)) else (if x0 > x1 then (some 1) else (some 0))
end
def cmp_Compare_int.f (k : Nat) (a0 a1 : Int) : Option (Int) := (cmp_isNaN_int.f a0).bind fun a3 => ((cmp_isNaN_int.f a1).bind fun a2 => (if a3 = true then (if a2 = true then (some 0) else (some (-1))) else (cmp_Compare_int.j0 k a0 a1 a2)))
theorem cmp_Compare_int.calls (k : Nat) (a0 a1 r : Int) (w : World) (h : cmp_Compare_int.f k a0 a1 = some r) :
  Calls Tryz.prog 138 #[.int .i64 a0, .int .i64 a1] w fun e w' => e = .returned (.int .i64 r) ∧ Drawn0 w w' := by
 unfold cmp_Compare_int.f at h
 have H := h
 clear h
 replace H := Option.bind_eq_some_iff.mp H
 obtain ⟨a8, a5, H⟩ := H
 try dsimp only at H
 have A3 := zA a5
 clear a5
 replace H := Option.bind_eq_some_iff.mp H
 obtain ⟨a6, a7, H⟩ := H
 try dsimp only at H
 have A4 := zA a7
 clear a7
 have a3 := zA H
 clear H
 go_enter Tryz.func138, Tryz.ntmps138
 go_upto_if 11 with (first | ((with_reducible refine zq 171 ?_); refine zg (some 8) Tryz.func171 #[.int .i64 a0] ?_; (with_reducible refine (cmp_isNaN_int.calls a0 a8 _ A3.out).mono ?_); rintro e w' ⟨rfl, ⟨nd, rfl⟩⟩; refine ⟨_, rfl, ?_⟩) | ((with_reducible refine zq 171 ?_); refine zg (some 10) Tryz.func171 #[.int .i64 a1] ?_; (with_reducible refine (cmp_isNaN_int.calls a1 a6 _ A4.out).mono ?_); rintro e w' ⟨rfl, ⟨nd, rfl⟩⟩; refine ⟨_, rfl, ?_⟩))
 (try simp only [Act.put, zT])
 go_cut [] (fun wc => ∃ (kq : Nat), Aside0 (cmp_Compare_int.j0 kq a0 a1 a6 = some r) ∧ Aside0 (kq ≤ k) ∧ Drawn0 w wc)
 case first =>
  have H := a3.out
  clear a3
  replace H := zB0 H
  rcases H with ⟨rfl, H⟩ | ⟨rfl, H⟩
  ·replace H := zB0 H
   rcases H with ⟨rfl, H⟩ | ⟨rfl, H⟩
   ·obtain rfl := zm H
    go_wp2
    go_ret
    exact ⟨by first | rfl | (simp; done) | (simp [*]; done) | (simp; rw [Bool.eq_iff_iff]; simp; done), by repeat (first | exact Drawn0.refl _ | apply Drawn0.step)⟩
   ·obtain rfl := zm H
    go_wp2
    go_ret
    exact ⟨by first | rfl | (simp; done) | (simp [*]; done) | (simp; rw [Bool.eq_iff_iff]; simp; done), by repeat (first | exact Drawn0.refl _ | apply Drawn0.step)⟩
  ·have H' := zA H
   clear H
   go_wp2
   go_meet
   case rel => exact ⟨_, (by first | exact H' | (subst_vars; exact H')), ⟨by first | omega | exact Nat.le_refl _⟩, by repeat (first | exact Drawn0.refl _ | apply Drawn0.step)⟩
 case rest =>
  clear a3
  try clear c1
  try clear p2
  try clear c6
  try clear c7
  obtain ⟨kq, HA, a9, ⟨b3, rfl⟩⟩ := hcut
  cases kq with
  | zero => exact absurd HA.out (by simp [cmp_Compare_int.j0])
  | succ b0 =>
   have H := HA.out
   clear HA
   simp only [cmp_Compare_int.j0] at H
   have a4 := zA H
   clear H
   go_upto_if 13 with (fail)
   go_cut [] (fun wc => ∃ (kq : Nat), Aside0 (cmp_Compare_int.j1 kq a0 a1 = some r) ∧ Aside0 (kq ≤ b0) ∧ Drawn0 w wc)
   case first =>
    have H := a4.out
    clear a4
    replace H := zB0 H
    rcases H with ⟨rfl, H⟩ | ⟨rfl, H⟩
    ·obtain rfl := zm H
     go_wp2
     go_ret
     exact ⟨by first | rfl | (simp; done) | (simp [*]; done) | (simp; rw [Bool.eq_iff_iff]; simp; done), by repeat (first | exact Drawn0.refl _ | apply Drawn0.step)⟩
    ·have H' := zA H
     clear H
     go_wp2
     go_meet
     case rel => exact ⟨_, (by first | exact H' | (subst_vars; exact H')), ⟨by have := a9.out; first | omega | exact Nat.le_refl _⟩, by repeat (first | exact Drawn0.refl _ | apply Drawn0.step)⟩
   case rest =>
    clear a4
    try clear c1
    try clear p2
    try clear c4
    try clear c6
    try clear c7
    try clear c9
    try clear p2
    obtain ⟨kq, HA, b4, ⟨b5, rfl⟩⟩ := hcut
    cases kq with
    | zero => exact absurd HA.out (by simp [cmp_Compare_int.j1])
    | succ b6 =>
     have H := HA.out
     clear HA
     simp only [cmp_Compare_int.j1] at H
     replace H := zI0 H
     rcases H with ⟨b1, H⟩ | ⟨b1, H⟩
     ·obtain rfl := zm H
      go_wp2
      go_ret
      exact ⟨by first | rfl | (simp; done) | (simp [*]; done) | (simp; rw [Bool.eq_iff_iff]; simp; done), by repeat (first | exact Drawn0.refl _ | apply Drawn0.step)⟩
     ·replace H := zI1 H
      rcases H with ⟨a2, H⟩ | ⟨a2, H⟩
      ·have b2 : decide (a1 < a0) = true := decide_eq_true a2
       clear a2
       obtain rfl := zm H
       go_wp2
       go_ret
       exact ⟨by first | rfl | (simp; done) | (simp [*]; done) | (simp; rw [Bool.eq_iff_iff]; simp; done), by repeat (first | exact Drawn0.refl _ | apply Drawn0.step)⟩
      ·have b2 : decide (a1 < a0) = false := decide_eq_false a2
       clear a2
       obtain rfl := zm H
       go_wp2
       go_ret
       exact ⟨by first | rfl | (simp; done) | (simp [*]; done) | (simp; rw [Bool.eq_iff_iff]; simp; done), by repeat (first | exact Drawn0.refl _ | apply Drawn0.step)⟩
/-! ### cmp_isNaN_string: function 194 -/
def cmp_isNaN_string.f (a0 : ByteArray) : Option (Bool) := some (a0.toList != a0.toList)
theorem cmp_isNaN_string.calls (a0 : ByteArray) (r : Bool) (w : World) (h : cmp_isNaN_string.f a0 = some r) :
  Calls Tryz.prog 194 #[.string a0] w fun e w' => e = .returned (.bool r) ∧ Drawn0 w w' := by
 unfold cmp_isNaN_string.f at h
 have H := h
 clear h
 obtain rfl := zm H
 go_enter Tryz.func194, Tryz.ntmps194
 go_wp2
 go_ret
 exact ⟨by first | rfl | (simp; done) | (simp [*]; done) | (simp; rw [Bool.eq_iff_iff]; simp; done), by repeat (first | exact Drawn0.refl _ | apply Drawn0.step)⟩
/-! ### cmp_Compare_string: function 172 -/
mutual
def cmp_Compare_string.j0 : Nat → ByteArray → ByteArray → Bool → Option (Int)
 | 0, _, _, _ => none
 | k + 1, x0, x1, x6 => if x6 = true then (some 1) else (cmp_Compare_string.j1 k x0 x1)
def cmp_Compare_string.j1 : Nat → ByteArray → ByteArray → Option (Int)
 | 0, _, _ => none
 | k + 1, x0, x1 => if (Op.bytesLess x0.toList x1.toList) = true then (some (-1)) else (if (Op.bytesLess x1.toList x0.toList) = true then (some 1) else (some 0))
end
def cmp_Compare_string.f (k : Nat) (a0 a1 : ByteArray) : Option (Int) := (cmp_isNaN_string.f a0).bind fun a3 => ((cmp_isNaN_string.f a1).bind fun a2 => (if a3 = true then (if a2 = true then (some 0) else (some (-1))) else (cmp_Compare_string.j0 k a0 a1 a2)))
theorem cmp_Compare_string.calls (k : Nat) (a0 a1 : ByteArray) (r : Int) (w : World) (h : cmp_Compare_string.f k a0 a1 = some r) :
  Calls Tryz.prog 172 #[.string a0, .string a1] w fun e w' => e = .returned (.int .i64 r) ∧ Drawn0 w w' := by
 unfold cmp_Compare_string.f at h
 have H := h
 clear h
 replace H := Option.bind_eq_some_iff.mp H
 obtain ⟨a9, a6, H⟩ := H
 try dsimp only at H
 have A3 := zA a6
 clear a6
 replace H := Option.bind_eq_some_iff.mp H
 obtain ⟨a7, a8, H⟩ := H
 try dsimp only at H
 have A4 := zA a8
 clear a8
 have a4 := zA H
 clear H
 go_enter Tryz.func172, Tryz.ntmps172
 go_upto_if 11 with (first | ((with_reducible refine zq 194 ?_); refine zg (some 8) Tryz.func194 #[.string a0] ?_; (with_reducible refine (cmp_isNaN_string.calls a0 a9 _ A3.out).mono ?_); rintro e w' ⟨rfl, ⟨nd, rfl⟩⟩; refine ⟨_, rfl, ?_⟩) | ((with_reducible refine zq 194 ?_); refine zg (some 10) Tryz.func194 #[.string a1] ?_; (with_reducible refine (cmp_isNaN_string.calls a1 a7 _ A4.out).mono ?_); rintro e w' ⟨rfl, ⟨nd, rfl⟩⟩; refine ⟨_, rfl, ?_⟩))
 (try simp only [Act.put, zT])
 go_cut [] (fun wc => ∃ (kq : Nat), Aside0 (cmp_Compare_string.j0 kq a0 a1 a7 = some r) ∧ Aside0 (kq ≤ k) ∧ Drawn0 w wc)
 case first =>
  have H := a4.out
  clear a4
  replace H := zB0 H
  rcases H with ⟨rfl, H⟩ | ⟨rfl, H⟩
  ·replace H := zB0 H
   rcases H with ⟨rfl, H⟩ | ⟨rfl, H⟩
   ·obtain rfl := zm H
    go_wp2
    go_ret
    exact ⟨by first | rfl | (simp; done) | (simp [*]; done) | (simp; rw [Bool.eq_iff_iff]; simp; done), by repeat (first | exact Drawn0.refl _ | apply Drawn0.step)⟩
   ·obtain rfl := zm H
    go_wp2
    go_ret
    exact ⟨by first | rfl | (simp; done) | (simp [*]; done) | (simp; rw [Bool.eq_iff_iff]; simp; done), by repeat (first | exact Drawn0.refl _ | apply Drawn0.step)⟩
  ·have H' := zA H
   clear H
   go_wp2
   go_meet
   case rel => exact ⟨_, (by first | exact H' | (subst_vars; exact H')), ⟨by first | omega | exact Nat.le_refl _⟩, by repeat (first | exact Drawn0.refl _ | apply Drawn0.step)⟩
 case rest =>
  clear a4
  try clear c1
  try clear p2
  try clear c6
  try clear c7
  obtain ⟨kq, HA, b0, ⟨b4, rfl⟩⟩ := hcut
  cases kq with
  | zero => exact absurd HA.out (by simp [cmp_Compare_string.j0])
  | succ b1 =>
   have H := HA.out
   clear HA
   simp only [cmp_Compare_string.j0] at H
   have a5 := zA H
   clear H
   go_upto_if 13 with (fail)
   go_cut [] (fun wc => ∃ (kq : Nat), Aside0 (cmp_Compare_string.j1 kq a0 a1 = some r) ∧ Aside0 (kq ≤ b1) ∧ Drawn0 w wc)
   case first =>
    have H := a5.out
    clear a5
    replace H := zB0 H
    rcases H with ⟨rfl, H⟩ | ⟨rfl, H⟩
    ·obtain rfl := zm H
     go_wp2
     go_ret
     exact ⟨by first | rfl | (simp; done) | (simp [*]; done) | (simp; rw [Bool.eq_iff_iff]; simp; done), by repeat (first | exact Drawn0.refl _ | apply Drawn0.step)⟩
    ·have H' := zA H
     clear H
     go_wp2
     go_meet
     case rel => exact ⟨_, (by first | exact H' | (subst_vars; exact H')), ⟨by have := b0.out; first | omega | exact Nat.le_refl _⟩, by repeat (first | exact Drawn0.refl _ | apply Drawn0.step)⟩
   case rest =>
    clear a5
    try clear c1
    try clear p2
    try clear c4
    try clear c6
    try clear c7
    try clear c9
    try clear p2
    obtain ⟨kq, HA, b5, ⟨b6, rfl⟩⟩ := hcut
    cases kq with
    | zero => exact absurd HA.out (by simp [cmp_Compare_string.j1])
    | succ b7 =>
     have H := HA.out
     clear HA
     simp only [cmp_Compare_string.j1] at H
     replace H := zI1 H
     rcases H with ⟨a2, H⟩ | ⟨a2, H⟩
     ·have b2 : (Op.bytesLess a0.toList a1.toList) = true := a2
      clear a2
      obtain rfl := zm H
      go_wp2
      go_ret
      exact ⟨by first | rfl | (simp; done) | (simp [*]; done) | (simp; rw [Bool.eq_iff_iff]; simp; done), by repeat (first | exact Drawn0.refl _ | apply Drawn0.step)⟩
     ·have b2 : (Op.bytesLess a0.toList a1.toList) = false := by simpa using a2
      clear a2
      replace H := zI1 H
      rcases H with ⟨a3, H⟩ | ⟨a3, H⟩
      ·have b3 : (Op.bytesLess a1.toList a0.toList) = true := a3
       clear a3
       obtain rfl := zm H
       go_wp2
       go_ret
       exact ⟨by first | rfl | (simp; done) | (simp [*]; done) | (simp; rw [Bool.eq_iff_iff]; simp; done), by repeat (first | exact Drawn0.refl _ | apply Drawn0.step)⟩
      ·have b3 : (Op.bytesLess a1.toList a0.toList) = false := by simpa using a3
       clear a3
       obtain rfl := zm H
       go_wp2
       go_ret
       exact ⟨by first | rfl | (simp; done) | (simp [*]; done) | (simp; rw [Bool.eq_iff_iff]; simp; done), by repeat (first | exact Drawn0.refl _ | apply Drawn0.step)⟩
/-! ### impl_compareWords: function 140 -/
mutual
def impl_compareWords.j0 : Nat → ByteArray → ByteArray → Bool → Bool → Option (Int)
 | 0, _, _, _, _ => none
 | k + 1, x0, x1, x5, x6 => if x5 = true then (impl_compareWords.j1 k x0 x1 x5 x6 x6) else (impl_compareWords.j1 k x0 x1 x5 x6 false)
def impl_compareWords.j1 : Nat → ByteArray → ByteArray → Bool → Bool → Bool → Option (Int)
 | 0, _, _, _, _, _ => none
 | k + 1, x0, x1, x5, x6, a0 => if a0 = true then ((cmp_Compare_int.f k (x0.size : Int) (x1.size : Int)).bind fun a1 => ((cmp_Compare_string.f k x0 x1).bind fun a2 => ((cmp_Or_int.f k (([a1, a2] : List Int))).bind fun a3 => (some a3)))) else (if x5 = true then (some (-1)) else (if x6 = true then (some 1) else ((cmp_Compare_string.f k x0 x1).bind fun a4 => (some a4))))
end
def impl_compareWords.f (k : Nat) (a0 a1 : ByteArray) : Option (Int) := if a0.toList = ([] : List UInt8) then (if a1.toList = ([] : List UInt8) then (impl_compareWords.j0 k a0 a1 true true) else ((impl_isFigures.f k a1).bind fun a3 => (impl_compareWords.j0 k a0 a1 true a3))) else ((impl_isFigures.f k a0).bind fun a2 => (if a1.toList = ([] : List UInt8) then (impl_compareWords.j0 k a0 a1 a2 true) else ((impl_isFigures.f k a1).bind fun a4 => (impl_compareWords.j0 k a0 a1 a2 a4))))
theorem impl_compareWords.calls (k : Nat) (a0 a1 : ByteArray) (r : Int) (w : World) (h : impl_compareWords.f k a0 a1 = some r) :
  Calls Tryz.prog 140 #[.string a0, .string a1] w fun e w' => e = .returned (.int .i64 r) ∧ Below w.heap.size w w' := by
 have HB := zA (Below.refl w.heap.size w)
 unfold impl_compareWords.f at h
 have H := h
 clear h
 have b0 := zA H
 clear H
 go_enter Tryz.func140, Tryz.ntmps140
 go_upto_region 1 with (fail)
 go_cut [5, 6] (fun v5 v6 wc => ∃ (kq : Nat) (a8 : Bool) (a5 : Bool), v5 = .bool a8 ∧ v6 = .bool a5 ∧ Aside0 (impl_compareWords.j0 kq a0 a1 a8 a5 = some r) ∧ Aside0 (kq ≤ k) ∧ Aside0 (Below w.heap.size w wc))
 case first =>
  have H := b0.out
  clear b0
  replace H := zI1 H
  rcases H with ⟨c4, H⟩ | ⟨c4, H⟩
  ·have a2 := beq_iff_eq.mpr c4
   have b1 := bne_eq_false_iff_eq.mpr c4
   clear c4
   (first | rw [a2] | (simp only [i64_w, i32_w]; rw [a2]) | rw [show a0.toList.isEmpty = true from by simpa using a2] | skip)
   replace H := zI1 H
   rcases H with ⟨c5, H⟩ | ⟨c5, H⟩
   ·have b2 := beq_iff_eq.mpr c5
    have b3 := bne_eq_false_iff_eq.mpr c5
    clear c5
    have H' := zA H
    clear H
    go_wp2
    go_meet
    case rel => exact ⟨_, (true), (true), zS, zS, (by first | exact H' | (subst_vars; exact H')), ⟨by first | omega | exact Nat.le_refl _⟩, ⟨zB⟩⟩
   ·have b2 := beq_eq_false_iff_ne.mpr c5
    have b3 := bne_iff_ne.mpr c5
    replace H := Option.bind_eq_some_iff.mp H
    obtain ⟨c3, c6, H⟩ := H
    try dsimp only at H
    have A6 := zA c6
    clear c6
    have H' := zA H
    clear H
    go_wp2_with (first | (go_at_call 151; (with_reducible refine (impl_isFigures.calls k a1 c3 _ A6.out).mono ?_); rintro e w' ⟨rfl, ⟨nd, rfl⟩⟩))
    go_meet
    case rel => exact ⟨_, (true), (c3), zS, zS, (by first | exact H' | (subst_vars; exact H')), ⟨by first | omega | exact Nat.le_refl _⟩, ⟨zB⟩⟩
  ·have a2 := beq_eq_false_iff_ne.mpr c4
   have b1 := bne_iff_ne.mpr c4
   (first | rw [a2] | (simp only [i64_w, i32_w]; rw [a2]) | rw [show a0.toList.isEmpty = false from by simpa using a2] | skip)
   replace H := Option.bind_eq_some_iff.mp H
   obtain ⟨a9, c7, H⟩ := H
   try dsimp only at H
   have A7 := zA c7
   clear c7
   replace H := zI1 H
   rcases H with ⟨c8, H⟩ | ⟨c8, H⟩
   ·have b4 := beq_iff_eq.mpr c8
    have b5 := bne_eq_false_iff_eq.mpr c8
    clear c8
    have H' := zA H
    clear H
    go_wp2_with (first | (go_at_call 151; (with_reducible refine (impl_isFigures.calls k a0 a9 _ A7.out).mono ?_); rintro e w' ⟨rfl, ⟨nd, rfl⟩⟩))
    go_meet
    case rel => exact ⟨_, (a9), (true), zS, zS, (by first | exact H' | (subst_vars; exact H')), ⟨by first | omega | exact Nat.le_refl _⟩, ⟨zB⟩⟩
   ·have b4 := beq_eq_false_iff_ne.mpr c8
    have b5 := bne_iff_ne.mpr c8
    replace H := Option.bind_eq_some_iff.mp H
    obtain ⟨c9, d0, H⟩ := H
    try dsimp only at H
    have A9 := zA d0
    clear d0
    have H' := zA H
    clear H
    go_wp2_with (first | (go_at_call 151; (with_reducible refine (impl_isFigures.calls k a0 a9 _ A7.out).mono ?_); rintro e w' ⟨rfl, ⟨nd, rfl⟩⟩) | (go_at_call 151; (with_reducible refine (impl_isFigures.calls k a1 c9 _ A9.out).mono ?_); rintro e w' ⟨rfl, ⟨nd, rfl⟩⟩))
    go_meet
    case rel => exact ⟨_, (a9), (c9), zS, zS, (by first | exact H' | (subst_vars; exact H')), ⟨by first | omega | exact Nat.le_refl _⟩, ⟨zB⟩⟩
 case rest =>
  clear b0
  try clear c1
  try clear p2
  try clear c4
  try clear a2
  try clear b1
  try clear c5
  try clear b2
  try clear b3
  try clear c8
  try clear b4
  try clear b5
  obtain ⟨kq, a8, a5, rfl, rfl, HA, d1, HB⟩ := hcut
  cases kq with
  | zero => exact absurd HA.out (by simp [impl_compareWords.j0])
  | succ d7 =>
   have H := HA.out
   clear HA
   simp only [impl_compareWords.j0] at H
   have b6 := zA H
   clear H
   go_upto_region 2 with (fail)
   go_cut [19] (fun d8 wc => ∃ (kq : Nat) (b7 : Bool), d8 = .bool b7 ∧ Aside0 (impl_compareWords.j1 kq a0 a1 a8 a5 b7 = some r) ∧ Aside0 (kq ≤ d7) ∧ Aside0 (Below w.heap.size w wc))
   case first =>
    have H := b6.out
    clear b6
    replace H := zB0 H
    rcases H with ⟨rfl, H⟩ | ⟨rfl, H⟩
    ·have H' := zA H
     clear H
     go_wp2
     go_meet
     case rel => exact ⟨_, (a5), zS, (by first | exact H' | (subst_vars; exact H')), ⟨by have := d1.out; first | omega | exact Nat.le_refl _⟩, ⟨zB⟩⟩
    ·have H' := zA H
     clear H
     go_wp2
     go_meet
     case rel => exact ⟨_, (false), zS, (by first | exact H' | (subst_vars; exact H')), ⟨by have := d1.out; first | omega | exact Nat.le_refl _⟩, ⟨zB⟩⟩
   case rest =>
    clear b6
    try clear c1
    try clear p2
    try clear c4
    try clear a2
    try clear b1
    try clear c5
    try clear b2
    try clear b3
    try clear c8
    try clear b4
    try clear b5
    try clear c11
    try clear p2
    obtain ⟨kq, b7, rfl, HA, e7, HB⟩ := hcut
    cases kq with
    | zero => exact absurd HA.out (by simp [impl_compareWords.j1])
    | succ a6 =>
     have H := HA.out
     clear HA
     simp only [impl_compareWords.j1] at H
     replace H := zB0 H
     rcases H with ⟨rfl, H⟩ | ⟨rfl, H⟩
     ·replace H := Option.bind_eq_some_iff.mp H
      obtain ⟨a3, d2, H⟩ := H
      try dsimp only at H
      have d9 := zA d2
      clear d2
      replace H := Option.bind_eq_some_iff.mp H
      obtain ⟨a4, d3, H⟩ := H
      try dsimp only at H
      have e0 := zA d3
      clear d3
      obtain ⟨b8, b9⟩ : ∃ y_ : List Int, y_ = (([a3, a4] : List Int)) := ⟨_, rfl⟩
      replace H : ((cmp_Or_int.f a6 b8).bind fun c0 => (some c0)) = some r := zY b9 H
      have d4 := zA b9
      clear b9
      replace H := Option.bind_eq_some_iff.mp H
      obtain ⟨c0, d5, H⟩ := H
      try dsimp only at H
      have e1 := zA d5
      clear d5
      obtain rfl := zm H
      go_wp2_with (first | ((with_reducible refine zq 138 ?_); refine zg (some 28) Tryz.func138 #[.int .i64 (a0.size : Int), .int .i64 (a1.size : Int)] ?_; (with_reducible refine (cmp_Compare_int.calls a6 (a0.size : Int) (a1.size : Int) a3 _ d9.out).mono ?_); rintro e w' ⟨rfl, ⟨nd, rfl⟩⟩; refine ⟨_, rfl, ?_⟩) | ((with_reducible refine zq 172 ?_); refine zg (some 31) Tryz.func172 #[.string a0, .string a1] ?_; (with_reducible refine (cmp_Compare_string.calls a6 a0 a1 a4 _ e0.out).mono ?_); rintro e w' ⟨rfl, ⟨nd, rfl⟩⟩; refine ⟨_, rfl, ?_⟩) | ((with_reducible refine gate_dst (N := 32) rfl ?_); refine Kd.R_lit (Kd.int .i64) _ 3 ?hg (N := 32) ?hd (xs := ([a3, a4] : List Int)) (inner := [.int .i64 a3, .int .i64 a4]) (ok := fun _ => True) ?hr ?hp (fun _ hk => hk) trivial (Below.refl _ _) (Nat.le_refl _) (by simp) ?_; (case hd => rfl); (case hg => rfl); (case hr => first | (go_simp; done) | (go_simp; rfl)); (case hp => exact (Reps.one (show Kd.M (Kd.int .i64) _ _ _ a3 [.int .i64 a3] from rfl) (Reps.one (show Kd.M (Kd.int .i64) _ _ _ a4 [.int .i64 a4] from rfl) (Reps.none _ _)))); intro e8 e9 a7 hb hg_ hnew_; clear hg_ hnew_; (first | rw [← d4.out] at a7 | (simp only [Int.reduceToNat] at a7; rw [← d4.out] at a7)); have c2 := zA (Kd.R_lower a7 (below_size (zB))); replace HB := zA (below_step (zB) hb); clear hb a7; obtain ⟨e2, e3, e4⟩ := Kd.R_slice c2.out; subst e4) | ((with_reducible refine zq 137 ?_); refine zg (some 33) Tryz.func137 #[.slice e2 b8.length e3] ?_; (with_reducible refine (cmp_Or_int.calls a6 _ _ b8 c0 _ ?s1 ?s2 e1.out).mono ?_); (case s1 => repeat (first | exact (Kd.R_reads' c2.out).2.2 | (with_reducible refine Kd.C_alloc ?_ _) | (with_reducible refine Kd.C_drewN ?_ _) | (with_reducible refine Kd.C_drew ?_))); (case s2 => exact (Kd.R_reads' c2.out).2.1); rintro e w' ⟨rfl, ⟨nd, rfl⟩⟩; refine ⟨_, rfl, ?_⟩))
      go_ret
      exact ⟨zE, zB⟩
     ·replace H := zB0 H
      rcases H with ⟨rfl, H⟩ | ⟨rfl, H⟩
      ·obtain rfl := zm H
       go_wp2
       go_ret
       exact ⟨zE, zB⟩
      ·replace H := zB0 H
       rcases H with ⟨rfl, H⟩ | ⟨rfl, H⟩
       ·obtain rfl := zm H
        go_wp2
        go_ret
        exact ⟨zE, zB⟩
       ·replace H := Option.bind_eq_some_iff.mp H
        obtain ⟨e5, d6, H⟩ := H
        try dsimp only at H
        have e6 := zA d6
        clear d6
        obtain rfl := zm H
        go_wp2_with (first | ((with_reducible refine zq 172 ?_); refine zg (some 40) Tryz.func172 #[.string a0, .string a1] ?_; (with_reducible refine (cmp_Compare_string.calls a6 a0 a1 e5 _ e6.out).mono ?_); rintro e w' ⟨rfl, ⟨nd, rfl⟩⟩; refine ⟨_, rfl, ?_⟩))
        go_ret
        exact ⟨zE, zB⟩
/-! ### slices_CompareFunc_string_string_string_string: function 139 -/
mutual
def slices_CompareFunc_string_string_string_string.l0 : Nat → List ByteArray → List ByteArray → List ByteArray → Int → Int → Option (Int)
 | 0, _, _, _, _, _ => none
 | k + 1, x0, x1, a1, a2, a0 => if a0 < a2 then (slices_CompareFunc_string_string_string_string.j1 k x0 x1 a1 a2 a0) else (if (x0.length : Int) < (x1.length : Int) then (some (-1)) else (some 0))
def slices_CompareFunc_string_string_string_string.j1 : Nat → List ByteArray → List ByteArray → List ByteArray → Int → Int → Option (Int)
 | 0, _, _, _, _, _ => none
 | k + 1, x0, x1, a1, a2, a0 => if 0 ≤ a0 then (if a0 < (a1.length : Int) then (if a0 ≥ (x1.length : Int) then (some 1) else (if a0 < (x1.length : Int) then ((impl_compareWords.f k (rdOf ByteArray.empty a1 a0) (rdOf ByteArray.empty x1 a0)).bind fun a3 => (if a3 = 0 then (slices_CompareFunc_string_string_string_string.l0 k x0 x1 a1 a2 (wrap64 (a0 + 1))) else (some a3))) else (none))) else (none)) else (none)
end
def slices_CompareFunc_string_string_string_string.f (k : Nat) (l0 l1 : List ByteArray) : Option (Int) := slices_CompareFunc_string_string_string_string.l0 k l0 l1 l0 (l0.length : Int) 0
theorem slices_CompareFunc_string_string_string_string.calls (k : Nat) (A0 : Option Addr) (c0 : Nat) (l0 : List ByteArray) (A1 : Option Addr) (c1 : Nat) (l1 : List ByteArray) (r : Int) (w : World) (b5 : Kd.C Kd.string w A0 l0.length l0) (b6 : l0.length ≤ c0) (b7 : Kd.C Kd.string w A1 l1.length l1) (b8 : l1.length ≤ c1) (h : slices_CompareFunc_string_string_string_string.f k l0 l1 = some r) :
  Calls Tryz.prog 139 #[.slice A0 l0.length c0, .slice A1 l1.length c1, .func (.func 140) #[] #[]] w fun e w' => e = .returned (.int .i64 r) ∧ Below w.heap.size w w' := by
 have b0 := zA b5
 have d7 := zA b6
 clear b5 b6
 have b9 := zA b7
 have d8 := zA b8
 clear b7 b8
 have HB := zA (Below.refl w.heap.size w)
 unfold slices_CompareFunc_string_string_string_string.f at h
 have H := h
 clear h
 have H' := zA H
 clear H
 go_enter Tryz.func139, Tryz.ntmps139
 go_wp2
 go_loopg [13] k (fun kq d2 w' => ∃ (a0 : Int), d2 = .int .i64 a0 ∧ Aside0 (slices_CompareFunc_string_string_string_string.l0 kq l0 l1 l0 (l0.length : Int) a0 = some r) ∧ Aside0 (kq ≤ k) ∧ Aside0 (Below w.heap.size w w'))
 case atStart => exact ⟨(0), zS, H', ⟨Nat.le_refl _⟩, ⟨zB⟩⟩
 case round =>
  clear H'
  try clear c1
  try clear p2
  obtain ⟨a0, rfl, HA, b1, HB⟩ := hrel
  cases gk with
  | zero => exact absurd HA.out (by simp [slices_CompareFunc_string_string_string_string.l0])
  | succ k1 =>
   have H := HA.out
   clear HA
   simp only [slices_CompareFunc_string_string_string_string.l0] at H
   have b2 := zA H
   clear H
   go_upto_if 14 with (fail)
   go_cut [] (fun wc => ∃ (kq : Nat), Aside0 (slices_CompareFunc_string_string_string_string.j1 kq l0 l1 l0 (l0.length : Int) a0 = some r) ∧ Aside0 (kq ≤ k1) ∧ Aside0 (Below w.heap.size w wc))
   case first =>
    have H := b2.out
    clear b2
    replace H := zI0 H
    rcases H with ⟨a6, H⟩ | ⟨a6, H⟩
    ·(first | rw [a6] | (simp only [i64_w, i32_w]; rw [a6]) | skip)
     have H' := zA H
     clear H
     go_wp2
     go_meet
     case rel => exact ⟨_, (by first | exact H' | (subst_vars; exact H')), ⟨by have := b1.out; first | omega | exact Nat.le_refl _⟩, ⟨zB⟩⟩
    ·(first | rw [a6] | (simp only [i64_w, i32_w]; rw [a6]) | skip)
     replace H := zI1 H
     rcases H with ⟨c5, H⟩ | ⟨c5, H⟩
     ·have c2 := decide_eq_true c5
      have c3 : decide (l0.length < l1.length) = true := decide_eq_true (Int.ofNat_lt.mp c5)
      clear c5
      obtain rfl := zm H
      go_wp2
      go_ret
      exact ⟨zE, zB⟩
     ·have c2 := decide_eq_false c5
      have c3 : decide (l0.length < l1.length) = false := decide_eq_false (fun h => c5 (Int.ofNat_lt.mpr h))
      clear c5
      obtain rfl := zm H
      go_wp2
      go_ret
      exact ⟨zE, zB⟩
   case rest =>
    clear b2
    try clear c1
    try clear p2
    try clear c4
    try clear a6
    try clear c5
    try clear c2
    try clear c3
    try clear p2
    obtain ⟨kq, HA, c6, HB⟩ := hcut
    cases kq with
    | zero => exact absurd HA.out (by simp [slices_CompareFunc_string_string_string_string.j1])
    | succ b3 =>
     have H := HA.out
     clear HA
     simp only [slices_CompareFunc_string_string_string_string.j1] at H
     replace H := zD0 H
     obtain ⟨d9, H⟩ := H
     replace H := zD0 H
     obtain ⟨e0, H⟩ := H
     replace H := zI1 H
     rcases H with ⟨c8, H⟩ | ⟨c8, H⟩
     ·have d3 : decide ((l1.length : Int) ≤ a0) = true := decide_eq_true c8
      clear c8
      obtain rfl := zm H
      have a1 : 0 ≤ (a0 : Int) := zD
      have a2 : a0 < (l0.length : Int) := zD
      obtain ⟨c7, a8, a3⟩ := Kd.at_string b0.out a0 a1 a2
      cases a8
      replace a3 := zx HB a3
      replace a1 := eq_true a1
      replace a2 := eq_true a2
      go_wp2
      go_ret
      exact ⟨zE, zB⟩
     ·have d3 : decide ((l1.length : Int) ≤ a0) = false := decide_eq_false c8
      clear c8
      replace H := zD0 H
      obtain ⟨e1, H⟩ := H
      replace H := Option.bind_eq_some_iff.mp H
      obtain ⟨c9, d0, H⟩ := H
      try dsimp only at H
      have d1 := zA d0
      clear d0
      replace H := zI1 H
      rcases H with ⟨a7, H⟩ | ⟨a7, H⟩
      ·have d4 := beq_iff_eq.mpr a7
       have d5 := bne_eq_false_iff_eq.mpr a7
       clear a7
       have H' := zA H
       clear H
       have a1 : 0 ≤ (a0 : Int) := zD
       have a2 : a0 < (l0.length : Int) := zD
       obtain ⟨c7, a8, a3⟩ := Kd.at_string b0.out a0 a1 a2
       cases a8
       replace a3 := zx HB a3
       replace a1 := eq_true a1
       replace a2 := eq_true a2
       have a4 : 0 ≤ (a0 : Int) := zD
       have a5 : a0 < (l1.length : Int) := zD
       obtain ⟨d6, b4, a9⟩ := Kd.at_string b9.out a0 a4 a5
       cases b4
       replace a9 := zx HB a9
       replace a4 := eq_true a4
       replace a5 := eq_true a5
       go_wp2_with (first | (go_at_call 140; (with_reducible refine (impl_compareWords.calls b3 (rdOf ByteArray.empty l0 a0) (rdOf ByteArray.empty l1 a0) c9 _ d1.out).mono ?_); rintro e e2 ⟨rfl, hb⟩; replace HB := zA (below_step (zB) hb); (try clear hb)))
       go_roundg b3
       case measure => have := b1.out; have := c6.out; omega
       case rel => exact ⟨(wrap64 (a0 + 1)), zS, H', ⟨by have := b1.out; have := c6.out; omega⟩, ⟨zB⟩⟩
      ·have d4 := beq_eq_false_iff_ne.mpr a7
       have d5 := bne_iff_ne.mpr a7
       obtain rfl := zm H
       have a1 : 0 ≤ (a0 : Int) := zD
       have a2 : a0 < (l0.length : Int) := zD
       obtain ⟨c7, a8, a3⟩ := Kd.at_string b0.out a0 a1 a2
       cases a8
       replace a3 := zx HB a3
       replace a1 := eq_true a1
       replace a2 := eq_true a2
       have a4 : 0 ≤ (a0 : Int) := zD
       have a5 : a0 < (l1.length : Int) := zD
       obtain ⟨d6, b4, a9⟩ := Kd.at_string b9.out a0 a4 a5
       cases b4
       replace a9 := zx HB a9
       replace a4 := eq_true a4
       replace a5 := eq_true a5
       go_wp2_with (first | (go_at_call 140; (with_reducible refine (impl_compareWords.calls b3 (rdOf ByteArray.empty l0 a0) (rdOf ByteArray.empty l1 a0) c9 _ d1.out).mono ?_); rintro e e3 ⟨rfl, hb⟩; replace HB := zA (below_step (zB) hb); (try clear hb)))
       go_ret
       exact ⟨zE, zB⟩
/-! ### impl_compareVer: function 98 -/
def impl_compareVer.j0 : Nat → Int → Int → Int → List ByteArray → Int → Int → Int → List ByteArray → Option (Int)
 | 0, _, _, _, _, _, _, _, _ => none
 | k + 1, a3, a4, a5, a0, a6, a7, a8, a1 => if (((a0.length : Int) == 0) != ((a1.length : Int) == 0)) = true then (if (a0.length : Int) > 0 then (some (-1)) else (some 1)) else ((slices_CompareFunc_string_string_string_string.f k a0 a1).bind fun a2 => (some a2))
def impl_compareVer.f (k : Nat) (a0 a1 a2 : Int) (a7 : List ByteArray) (a3 a4 a5 : Int) (a8 : List ByteArray) : Option (Int) := (cmp_Compare_int.f k a0 a3).bind fun a9 => ((cmp_Compare_int.f k a1 a4).bind fun b0 => ((cmp_Compare_int.f k a2 a5).bind fun b1 => ((cmp_Or_int.f k (([a9, b0, b1] : List Int))).bind fun a6 => (if a6 = 0 then (impl_compareVer.j0 k a0 a1 a2 a7 a3 a4 a5 a8) else (some a6)))))
def impl_compareVer.T1 : Bool × List (List Nat × List Nat) := (true, [([], []), ([0], [0]), ([], []), ([2], [2]), ([1, 3], [1, 3]), ([], []), ([5], [5]), ([], []), ([7], [7]), ([6, 8, 4], [6, 8]), ([], []), ([10], [10]), ([], []), ([12], [12]), ([11, 13, 9], [11, 13]), ([4, 9, 14], [4, 9, 14]), ([15, 14], [15]), ([16, 16, 0, 1, 2, 3, 4, 5, 6, 7, 8, 9, 10, 11, 12, 13, 14, 15, 16], [16])])
def impl_compareVer.B1 : List Nat := [0, 1, 0, 4, 15, 0, 32, 0, 128, 511, 0, 1024, 0, 4096, 16383, 32767, 65535, 131071]
theorem impl_compareVer.tab1 : rtab .any (opsOf Tryz.f98 1) = impl_compareVer.T1 := by kernel_rfl
theorem impl_compareVer.bits1 : waitsOk impl_compareVer.T1.2 impl_compareVer.B1 = true := by kernel_rfl
theorem impl_compareVer.calls (k : Nat) (a5 a6 a7 : Int) (b2 : Option Addr) (b3 : Nat) (a0 : List ByteArray) (a8 a9 b0 : Int) (b4 : Option Addr) (b5 : Nat) (a1 : List ByteArray) (r : Int) (w : World) (d3 : Kd.C Kd.string w b2 a0.length a0) (d4 : a0.length ≤ b3) (d5 : Kd.C Kd.string w b4 a1.length a1) (d6 : a1.length ≤ b5) (h : impl_compareVer.f k a5 a6 a7 a0 a8 a9 b0 a1 = some r) :
  Calls Tryz.prog 98 #[.agg #[.int .i64 a5, .int .i64 a6, .int .i64 a7, .slice b2 a0.length b3], .agg #[.int .i64 a8, .int .i64 a9, .int .i64 b0, .slice b4 a1.length b5]] w fun e w' => e = .returned (.int .i64 r) ∧ Below w.heap.size w w' := by
 have g1 := Tryz.underlying32
 have e5 := zA d3
 have e6 := zA d4
 clear d3 d4
 have e7 := zA d5
 have e8 := zA d6
 clear d5 d6
 have HB := zA (Below.refl w.heap.size w)
 unfold impl_compareVer.f at h
 have H := h
 clear h
 replace H := Option.bind_eq_some_iff.mp H
 obtain ⟨b6, d7, H⟩ := H
 try dsimp only at H
 have A3 := zA d7
 clear d7
 replace H := Option.bind_eq_some_iff.mp H
 obtain ⟨b7, d8, H⟩ := H
 try dsimp only at H
 have A4 := zA d8
 clear d8
 replace H := Option.bind_eq_some_iff.mp H
 obtain ⟨b8, d9, H⟩ := H
 try dsimp only at H
 have A5 := zA d9
 clear d9
 obtain ⟨c6, c7⟩ : ∃ y_ : List Int, y_ = (([b6, b7, b8] : List Int)) := ⟨_, rfl⟩
 replace H : ((cmp_Or_int.f k c6).bind fun c5 => (if c5 = 0 then (impl_compareVer.j0 k a5 a6 a7 a0 a8 a9 b0 a1) else (some c5))) = some r := zY c7 H
 have e0 := zA c7
 clear c7
 replace H := Option.bind_eq_some_iff.mp H
 obtain ⟨c5, e1, H⟩ := H
 try dsimp only at H
 have A6 := zA e1
 clear e1
 have c8 := zA H
 clear H
 go_enter Tryz.func98, Tryz.ntmps98
 try go_wp2_with (first | ((with_reducible refine zd 2 ?_); refine ze 2 32 #[.int .i64 a5, .int .i64 a6, .int .i64 a7, .slice b2 a0.length b3] ?_; intro c0 hg w8 hbox hb; have a2 := zA (hbox); have g2 := zi HB hg; have g3 := zi HB hg; replace HB := zA (below_step (zB) hb); clear hb hbox hg) | ((with_reducible refine zd 3 ?_); refine ze 3 32 #[.int .i64 a8, .int .i64 a9, .int .i64 b0, .slice b4 a1.length b5] ?_; intro c2 hg w9 hbox hb; have a3 := zA (hbox); have g4 := zi HB hg; have g5 := zi HB hg; replace HB := zh HB hb; have d0 := zA (zL hg (zK a2.out)); have d1 := zA (zJ hg (zK a2.out)); replace a2 := zb a2 hb; clear hb hbox hg))
 replace a2 := zA (blk_drew a2.out)
 replace a3 := zA (blk_drew a3.out)
 replace HB := zA (below_drew1 HB.out)
 refine start_ (n := 18) (S := fun w' => w'.cell? ⟨c0, 0, none⟩ = some (.int .i64 a5) ∧ w'.cell? ⟨c0, 1, none⟩ = some (.int .i64 a6) ∧ w'.cell? ⟨c0, 2, none⟩ = some (.int .i64 a7) ∧ w'.cell? ⟨c0, 3, none⟩ = some (.slice b2 a0.length b3) ∧ w'.cell? ⟨c2, 0, none⟩ = some (.int .i64 a8) ∧ w'.cell? ⟨c2, 1, none⟩ = some (.int .i64 a9) ∧ w'.cell? ⟨c2, 2, none⟩ = some (.int .i64 b0) ∧ w'.cell? ⟨c2, 3, none⟩ = some (.slice b4 a1.length b5)) (ds := []) (Array.replicate 18 false) (by kernel_rfl) rfl rfl zO fun hHeld => ?_; refine with_tabW impl_compareVer.tab1 impl_compareVer.bits1 (fun HT_ HW_ => ?_)
 generalize w9.drew = g6 at a2 a3 HB hHeld ⊢
 refine zp 0 6 ?_
 refine zp 2 8 ?_
 refine zp 5 11 ?_
 refine zp 7 13 ?_
 refine zp 10 16 ?_
 refine zp 12 18 ?_
 refine zt 1 7 ?_
 refine zt 3 9 ?_
 refine zt 6 12 ?_
 refine zt 8 14 ?_
 refine zt 11 17 ?_
 refine zt 13 19 ?_
 refine zo 4 (some 10) fun K hK => ?_
 refine goes_ Tryz.func138 (by kernel_rfl) rfl #[.int .i64 a5, .int .i64 a8] (by rfl) rfl rfl zM ?_
 with_reducible refine (cmp_Compare_int.calls k a5 a8 b6 _ A3.out).mono ?_
 rintro e w' ⟨rfl, ⟨nd, rfl⟩⟩
 refine ⟨_, rfl, ?_⟩
 refine hK.out _ _ zO fun hHeld => ?_
 clear hK K
 refine zn ?_
 refine zo 9 (some 15) fun K hK => ?_
 refine goes_ Tryz.func138 (by kernel_rfl) rfl #[.int .i64 a6, .int .i64 a9] (by rfl) rfl rfl zM ?_
 with_reducible refine (cmp_Compare_int.calls k a6 a9 b7 _ A4.out).mono ?_
 rintro e w' ⟨rfl, ⟨nd, rfl⟩⟩
 refine ⟨_, rfl, ?_⟩
 refine hK.out _ _ zO fun hHeld => ?_
 clear hK K
 refine zn ?_
 refine zo 14 (some 20) fun K hK => ?_
 refine goes_ Tryz.func138 (by kernel_rfl) rfl #[.int .i64 a7, .int .i64 b0] (by rfl) rfl rfl zM ?_
 with_reducible refine (cmp_Compare_int.calls k a7 b0 b8 _ A5.out).mono ?_
 rintro e w' ⟨rfl, ⟨nd, rfl⟩⟩
 refine ⟨_, rfl, ?_⟩
 refine hK.out _ _ zO fun hHeld => ?_
 clear hK K
 refine zn ?_
 refine zo 15 (some 21) fun K hK => ?_
 refine Kd.R_lit_step (Kd.int .i64) _ 3 ?hg (N := 21) ?hd (xs := ([b6, b7, b8] : List Int)) (inner := [.int .i64 b6, .int .i64 b7, .int .i64 b8]) (ok := fun _ => True) ?hr ?hp (fun _ hk => hk) trivial (Below.refl _ _) (Nat.le_refl _) (by simp) ?_; (case hd => rfl); (case hg => rfl); (case hr => first | (go_simp; done) | (go_simp; rfl)); (case hp => exact (Reps.one (show Kd.M (Kd.int .i64) _ _ _ b6 [.int .i64 b6] from rfl) (Reps.one (show Kd.M (Kd.int .i64) _ _ _ b7 [.int .i64 b7] from rfl) (Reps.one (show Kd.M (Kd.int .i64) _ _ _ b8 [.int .i64 b8] from rfl) (Reps.none _ _)))))
 intro g7 g8 c3 hb hg_ hnew_
 clear hg_ hnew_
 (first | rw [← e0.out] at c3 | (simp only [Int.reduceToNat] at c3; rw [← e0.out] at c3))
 have d2 := zA (Kd.R_lower c3 (below_size (zW HB.out)))
 replace a2 := zb a2 hb
 replace a3 := zb a3 hb
 replace HB := zh HB hb
 clear hb c3
 obtain ⟨e9, f0, e2⟩ := Kd.R_slice d2.out
 (first | subst e2 | (injection e2 with f1_ f2_ f3_; have f1 := f1_.symm; have f2 := f3_.symm; clear f1_ f2_ f3_; subst f1; subst f2))
 refine hK.out _ _ zO fun hHeld => ?_
 clear hK K
 refine zn ?_
 refine zo 16 (some 22) fun K hK => ?_
 refine goes_ Tryz.func137 (by kernel_rfl) rfl #[.slice e9 c6.length f0] (by rfl) rfl rfl zM ?_
 with_reducible refine (cmp_Or_int.calls k _ _ c6 c5 _ ?s1 ?s2 A6.out).mono ?_
 (case s1 => repeat (first | exact (Kd.R_reads' d2.out).2.2 | (with_reducible refine Kd.C_alloc ?_ _) | (with_reducible refine Kd.C_drewN ?_ _) | (with_reducible refine Kd.C_drew ?_)))
 (case s2 => exact (Kd.R_reads' d2.out).2.1)
 rintro e w' ⟨rfl, ⟨nd, rfl⟩⟩
 refine ⟨_, rfl, ?_⟩
 refine hK.out _ _ zO fun hHeld => ?_
 clear hK K
 refine zn ?_
 refine zp 17 5 ?_
 refine done_ (done_of HT_.out (by kernel_rfl)) ?_
 go_upto_if 24 with (fail)
 go_cut [] (fun wc => ∃ (kq : Nat), Aside0 (impl_compareVer.j0 kq a5 a6 a7 a0 a8 a9 b0 a1 = some r) ∧ Aside0 (kq ≤ k) ∧ Aside0 (wc.heap[c0]? = some (.cells #[.int .i64 a5, .int .i64 a6, .int .i64 a7, (.slice b2 a0.length b3)] 32 (0, 0))) ∧ Aside0 (wc.heap[c2]? = some (.cells #[.int .i64 a8, .int .i64 a9, .int .i64 b0, (.slice b4 a1.length b5)] 32 (0, 0))) ∧ Aside0 (Below w.heap.size w wc))
 case first =>
  have H := c8.out
  clear c8
  replace H := zI1 H
  rcases H with ⟨b1, H⟩ | ⟨b1, H⟩
  ·have b9 := beq_iff_eq.mpr b1
   have e3 := bne_eq_false_iff_eq.mpr b1
   clear b1
   (first | rw [b9] | (simp only [i64_w, i32_w]; rw [b9]) | skip)
   have H' := zA H
   clear H
   go_wp2
   go_meet
   case rel => exact ⟨_, (by first | exact H' | (subst_vars; exact H')), ⟨by first | omega | exact Nat.le_refl _⟩, ⟨zK a2.out⟩, ⟨zK a3.out⟩, ⟨zW HB.out⟩⟩
  ·have b9 := beq_eq_false_iff_ne.mpr b1
   have e3 := bne_iff_ne.mpr b1
   (first | rw [b9] | (simp only [i64_w, i32_w]; rw [b9]) | skip)
   obtain rfl := zm H
   go_wp2
   go_ret
   exact ⟨zE, zW HB.out⟩
 case rest =>
  clear c8
  try clear c1
  try clear p2
  try clear c9
  try clear c13
  try clear b1
  try clear b9
  try clear e3
  obtain ⟨kq, HA, g9, a2, a3, HB⟩ := hcut
  cases kq with
  | zero => exact absurd HA.out (by simp [impl_compareVer.j0])
  | succ f3 =>
   have H := HA.out
   clear HA
   simp only [impl_compareVer.j0] at H
   replace H := zI1 H
   rcases H with ⟨a4, H⟩ | ⟨a4, H⟩
   ·have f4 : (((a0.length : Int) == 0) != ((a1.length : Int) == 0)) = true := a4
    (try (have f5 : decide (((a0.length : Int) == 0) = ((a1.length : Int) == 0)) = false := by simpa using a4))
    (try (have f6 : (((a0.length : Int) == 0) == ((a1.length : Int) == 0)) = false := by simpa using a4))
    (try (have h0 : ¬ (((a0.length : Int) == 0) = ((a1.length : Int) == 0)) := by simpa using a4))
    clear a4
    replace H := zI1 H
    rcases H with ⟨c4, H⟩ | ⟨c4, H⟩
    ·have f7 : decide (0 < (a0.length : Int)) = true := decide_eq_true c4
     have f8 : decide (0 < a0.length) = true := decide_eq_true (by omega)
     clear c4
     obtain rfl := zm H
     have h1 := d0.out
     have h2 := d1.out
     obtain ⟨h3, h4, h5, h6, h7, h8, h9, i0⟩ := ze4 a2.out
     obtain ⟨i1, i2, i3, i4, i5, i6, i7, i8⟩ := ze4 a3.out
     go_wp2
     go_ret
     exact ⟨zE, zW HB.out⟩
    ·have f7 : decide (0 < (a0.length : Int)) = false := decide_eq_false c4
     have f8 : decide (0 < a0.length) = false := decide_eq_false (by omega)
     clear c4
     obtain rfl := zm H
     have i9 := d0.out
     have j1 := d1.out
     obtain ⟨j2, j3, j4, j5, j6, j7, j8, j9⟩ := ze4 a2.out
     obtain ⟨k0, k1, k2, k3, k4, k5, k6, k7⟩ := ze4 a3.out
     go_wp2
     go_ret
     exact ⟨zE, zW HB.out⟩
   ·have f4 : (((a0.length : Int) == 0) != ((a1.length : Int) == 0)) = false := by simpa using a4
    (try (have f5 : decide (((a0.length : Int) == 0) = ((a1.length : Int) == 0)) = true := by simpa using a4))
    (try (have f6 : (((a0.length : Int) == 0) == ((a1.length : Int) == 0)) = true := by simpa using a4))
    clear a4
    replace H := Option.bind_eq_some_iff.mp H
    obtain ⟨f9, e4, H⟩ := H
    try dsimp only at H
    have g0 := zA e4
    clear e4
    obtain rfl := zm H
    have k8 := d0.out
    have k9 := d1.out
    obtain ⟨l0, l1, l2, l3, l4, l5, l6, l7⟩ := ze4 a2.out
    obtain ⟨l8, l9, m0, m1, m2, m3, m4, m5⟩ := ze4 a3.out
    go_wp2_with (first | ((with_reducible refine zq 139 ?_); refine zg (some 43) Tryz.func139 #[.slice b2 a0.length b3, .slice b4 a1.length b5, .func (.func 140) #[] #[]] ?_; (with_reducible refine (slices_CompareFunc_string_string_string_string.calls f3 _ _ a0 _ _ a1 f9 _ ?s1 ?s2 ?s3 ?s4 g0.out).mono ?_); (case s1 => exact zC (Kd.C_below e5.out HB.out)); (case s2 => exact e6.out); (case s3 => exact zC (Kd.C_below e7.out HB.out)); (case s4 => exact e8.out); rintro e m6 ⟨rfl, hb⟩; refine ⟨_, rfl, ?_⟩; replace a2 := zb a2 hb; replace a3 := zb a3 hb; replace HB := zh HB hb; (try clear hb)))
    go_ret
    exact ⟨zE, zW HB.out⟩
/-! ### impl_LessVer: function 121 -/
def impl_LessVer.f (k : Nat) (a0 a1 a2 : Int) (a3 : List ByteArray) (a4 a5 a6 : Int) (a7 : List ByteArray) : Option (Bool) := (impl_compareVer.f k a0 a1 a2 a3 a4 a5 a6 a7).bind fun a8 => (some (decide (a8 < 0)))
theorem impl_LessVer.calls (k : Nat) (a3 a4 a5 : Int) (a9 : Option Addr) (b0 : Nat) (a0 : List ByteArray) (a6 a7 a8 : Int) (b1 : Option Addr) (b2 : Nat) (a1 : List ByteArray) (r : Bool) (w : World) (b4 : Kd.C Kd.string w a9 a0.length a0) (b5 : a0.length ≤ b0) (b6 : Kd.C Kd.string w b1 a1.length a1) (b7 : a1.length ≤ b2) (h : impl_LessVer.f k a3 a4 a5 a0 a6 a7 a8 a1 = some r) :
  Calls Tryz.prog 121 #[.agg #[.int .i64 a3, .int .i64 a4, .int .i64 a5, .slice a9 a0.length b0], .agg #[.int .i64 a6, .int .i64 a7, .int .i64 a8, .slice b1 a1.length b2]] w fun e w' => e = .returned (.bool r) ∧ Below w.heap.size w w' := by
 have c6 := Tryz.underlying32
 have b9 := zA b4
 have c0 := zA b5
 clear b4 b5
 have c1 := zA b6
 have c2 := zA b7
 clear b6 b7
 have HB := zA (Below.refl w.heap.size w)
 unfold impl_LessVer.f at h
 have H := h
 clear h
 replace H := Option.bind_eq_some_iff.mp H
 obtain ⟨c3, b8, H⟩ := H
 try dsimp only at H
 have A3 := zA b8
 clear b8
 obtain rfl := zm H
 go_enter Tryz.func121, Tryz.ntmps121
 go_wp2_with (first | ((with_reducible refine zd 2 ?_); refine ze 2 32 #[.int .i64 a3, .int .i64 a4, .int .i64 a5, .slice a9 a0.length b0] ?_; intro c7 hg w4 hbox hb; have a2 := zA (hbox); have c8 := zi HB hg; have c9 := zi HB hg; replace HB := zA (below_step (zB) hb); clear hb hbox hg) | ((with_reducible refine zd 3 ?_); refine ze 3 32 #[.int .i64 a6, .int .i64 a7, .int .i64 a8, .slice b1 a1.length b2] ?_; intro d0 hg w5 hbox hb; have b3 := zA (hbox); have d1 := zi HB hg; have d2 := zi HB hg; replace HB := zh HB hb; have c4 := zA (zL hg (zK a2.out)); have c5 := zA (zJ hg (zK a2.out)); replace a2 := zb a2 hb; clear hb hbox hg; have d3 := c4.out; have d4 := c5.out; obtain ⟨d5, d6, d7, d8, d9, e0, e1, e2⟩ := ze4 a2.out; obtain ⟨e3, e4, e5, e6, e7, e8, e9, f0⟩ := ze4 b3.out) | ((with_reducible refine zq 98 ?_); refine zg (some 7) Tryz.func98 #[.agg #[.int .i64 a3, .int .i64 a4, .int .i64 a5, .slice a9 a0.length b0], .agg #[.int .i64 a6, .int .i64 a7, .int .i64 a8, .slice b1 a1.length b2]] ?_; (with_reducible refine (impl_compareVer.calls k a3 a4 a5 _ _ a0 a6 a7 a8 _ _ a1 c3 _ ?s1 ?s2 ?s3 ?s4 A3.out).mono ?_); (case s1 => exact zC (Kd.C_below b9.out HB.out)); (case s2 => exact c0.out); (case s3 => exact zC (Kd.C_below c1.out HB.out)); (case s4 => exact c2.out); rintro e w9 ⟨rfl, hb⟩; refine ⟨_, rfl, ?_⟩; replace a2 := zb a2 hb; replace b3 := zb b3 hb; replace HB := zh HB hb; (try clear hb)))
 go_ret
 exact ⟨zE, zW HB.out⟩
/-! ### impl_lessEntry: function 72 -/
def impl_lessEntry.f (k : Nat) (a0 : ByteArray) (a2 a3 a4 : Int) (a5 : List ByteArray) (b1 : List (S30)) (a1 : ByteArray) (a6 a7 a8 : Int) (a9 : List ByteArray) (b2 : List (S30)) : Option (Bool) := if (Op.bytesLess a0.toList a1.toList) = true then (some true) else (if a0.toList = a1.toList then ((impl_LessVer.f k a2 a3 a4 a5 a6 a7 a8 a9).bind fun b0 => (some b0)) else (some false))
theorem impl_lessEntry.calls (k : Nat) (a5 : ByteArray) (a8 a9 b0 : Int) (b4 : Option Addr) (b5 : Nat) (a1 : List ByteArray) (b6 : Option Addr) (b7 : Nat) (a3 : List (S30)) (a6 : ByteArray) (b1 b2 b3 : Int) (b8 : Option Addr) (b9 : Nat) (a2 : List ByteArray) (c0 : Option Addr) (c1 : Nat) (a4 : List (S30)) (r : Bool) (w : World) (c5 : Kd.C Kd.string w b4 a1.length a1) (c6 : a1.length ≤ b5) (c7 : Kd.C k30 w b6 a3.length a3) (c8 : a3.length ≤ b7) (d0 : Kd.C Kd.string w b8 a2.length a2) (d1 : a2.length ≤ b9) (d2 : Kd.C k30 w c0 a4.length a4) (d3 : a4.length ≤ c1) (h : impl_lessEntry.f k a5 a8 a9 b0 a1 a3 a6 b1 b2 b3 a2 a4 = some r) :
  Calls Tryz.prog 72 #[.agg #[.string a5, .int .i64 a8, .int .i64 a9, .int .i64 b0, .slice b4 a1.length b5, .slice b6 a3.length b7], .agg #[.string a6, .int .i64 b1, .int .i64 b2, .int .i64 b3, .slice b8 a2.length b9, .slice c0 a4.length c1]] w fun e w' => e = .returned (.bool r) ∧ Below w.heap.size w w' := by
 have f0 := Tryz.underlying102
 have f1 := Tryz.underlying32
 have e1 := zA c5
 have e2 := zA c6
 clear c5 c6
 have f2 := zA c7
 have f3 := zA c8
 clear c7 c8
 have e3 := zA d0
 have e4 := zA d1
 clear d0 d1
 have f4 := zA d2
 have f5 := zA d3
 clear d2 d3
 have HB := zA (Below.refl w.heap.size w)
 unfold impl_lessEntry.f at h
 have H := h
 clear h
 replace H := zI1 H
 rcases H with ⟨c3, H⟩ | ⟨c3, H⟩
 ·have e5 : (Op.bytesLess a5.toList a6.toList) = true := c3
  clear c3
  obtain rfl := zm H
  go_enter Tryz.func72, Tryz.ntmps72
  go_wp2_with (first | ((with_reducible refine zd 2 ?_); refine ze 2 102 #[.string a5, .int .i64 a8, .int .i64 a9, .int .i64 b0, .slice b4 a1.length b5, .slice b6 a3.length b7] ?_; intro d4 hg w4 hbox hb; have a0 := zA (hbox); have d5 := zi HB hg; have d6 := zi HB hg; replace HB := zA (below_step (zB) hb); clear hb hbox hg) | ((with_reducible refine zd 3 ?_); refine ze 3 102 #[.string a6, .int .i64 b1, .int .i64 b2, .int .i64 b3, .slice b8 a2.length b9, .slice c0 a4.length c1] ?_; intro d7 hg w5 hbox hb; have a7 := zA (hbox); have d8 := zi HB hg; have d9 := zi HB hg; replace HB := zh HB hb; have c2 := zA (zL hg (zK a0.out)); have c4 := zA (zJ hg (zK a0.out)); replace a0 := zb a0 hb; clear hb hbox hg; have f6 := c2.out; have f7 := c4.out; obtain ⟨f8, f9, g0, g1, g2, g3, g4, g5, g6, g7, g8, g9⟩ := ze6 a0.out; obtain ⟨h0, h1, h2, h3, h4, h5, h6, h7, h8, h9, i0, i1⟩ := ze6 a7.out))
  go_ret
  exact ⟨zE, zW HB.out⟩
 ·have e5 : (Op.bytesLess a5.toList a6.toList) = false := by simpa using c3
  clear c3
  replace H := zI1 H
  rcases H with ⟨c9, H⟩ | ⟨c9, H⟩
  ·have e6 := beq_iff_eq.mpr c9
   have e7 := bne_eq_false_iff_eq.mpr c9
   clear c9
   replace H := Option.bind_eq_some_iff.mp H
   obtain ⟨e8, e0, H⟩ := H
   try dsimp only at H
   have e9 := zA e0
   clear e0
   obtain rfl := zm H
   go_enter Tryz.func72, Tryz.ntmps72
   go_wp2_with (first | ((with_reducible refine zd 2 ?_); refine ze 2 102 #[.string a5, .int .i64 a8, .int .i64 a9, .int .i64 b0, .slice b4 a1.length b5, .slice b6 a3.length b7] ?_; intro d4 hg i2 hbox hb; have a0 := zA (hbox); have d5 := zi HB hg; have d6 := zi HB hg; replace HB := zA (below_step (zB) hb); clear hb hbox hg) | ((with_reducible refine zd 3 ?_); refine ze 3 102 #[.string a6, .int .i64 b1, .int .i64 b2, .int .i64 b3, .slice b8 a2.length b9, .slice c0 a4.length c1] ?_; intro d7 hg i3 hbox hb; have a7 := zA (hbox); have d8 := zi HB hg; have d9 := zi HB hg; replace HB := zh HB hb; have c2 := zA (zL hg (zK a0.out)); have c4 := zA (zJ hg (zK a0.out)); replace a0 := zb a0 hb; clear hb hbox hg; have i4 := c2.out; have i5 := c4.out; obtain ⟨i6, i7, i8, i9, j0, j1, j2, j3, j4, j5, j6, j7⟩ := ze6 a0.out; obtain ⟨j8, j9, k0, k1, k2, k3, k4, k5, k6, k7, k8, k9⟩ := ze6 a7.out) | (go_at_call 121; (with_reducible refine (impl_LessVer.calls k a8 a9 b0 _ _ a1 b1 b2 b3 _ _ a2 e8 _ ?s1 ?s2 ?s3 ?s4 e9.out).mono ?_); (case s1 => exact zC (Kd.C_below e1.out HB.out)); (case s2 => exact e2.out); (case s3 => exact zC (Kd.C_below e3.out HB.out)); (case s4 => exact e4.out); rintro e l0 ⟨rfl, hb⟩; replace a0 := zb a0 hb; replace a7 := zb a7 hb; replace HB := zh HB hb; (try clear hb)))
   go_ret
   exact ⟨zE, zW HB.out⟩
  ·have e6 := beq_eq_false_iff_ne.mpr c9
   have e7 := bne_iff_ne.mpr c9
   obtain rfl := zm H
   go_enter Tryz.func72, Tryz.ntmps72
   go_wp2_with (first | ((with_reducible refine zd 2 ?_); refine ze 2 102 #[.string a5, .int .i64 a8, .int .i64 a9, .int .i64 b0, .slice b4 a1.length b5, .slice b6 a3.length b7] ?_; intro d4 hg l1 hbox hb; have a0 := zA (hbox); have d5 := zi HB hg; have d6 := zi HB hg; replace HB := zA (below_step (zB) hb); clear hb hbox hg) | ((with_reducible refine zd 3 ?_); refine ze 3 102 #[.string a6, .int .i64 b1, .int .i64 b2, .int .i64 b3, .slice b8 a2.length b9, .slice c0 a4.length c1] ?_; intro d7 hg l2 hbox hb; have a7 := zA (hbox); have d8 := zi HB hg; have d9 := zi HB hg; replace HB := zh HB hb; have c2 := zA (zL hg (zK a0.out)); have c4 := zA (zJ hg (zK a0.out)); replace a0 := zb a0 hb; clear hb hbox hg; have l3 := c2.out; have l4 := c4.out; obtain ⟨l5, l6, l7, l8, l9, m0, m1, m2, m3, m4, m5, m6⟩ := ze6 a0.out; obtain ⟨m7, m8, m9, n0, n1, n2, n3, n4, n5, n6, n7, n8⟩ := ze6 a7.out))
   go_ret
   exact ⟨zE, zW HB.out⟩
end Go.Proofs.YtpcdhoeoefoeoaaGreatDoor.PGD
