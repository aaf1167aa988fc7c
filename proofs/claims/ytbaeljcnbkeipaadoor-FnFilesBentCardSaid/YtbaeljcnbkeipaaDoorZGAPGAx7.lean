/- The walks of the functions that these laws reach, and what each comes to: printed by this session's program. -/
import Derived.Test.YtbaeljcnbkeipaaDoorZGAPGAx0
import Derived.Test.YtbaeljcnbkeipaaDoorZGAPGAx5
import Derived.Test.YtbaeljcnbkeipaaDoorZGASays
import Derived.Test.YtbaeljcnbkeipaaDoorZGARegs
import Derived.Test.YtbaeljcnbkeipaaDoorZGAPGAx2
namespace Go.Proofs.YtbaeljcnbkeipaaDoor.PGA
open Go.RowKit YtbaeljcnbkeipaaDoorW.PrintWords YtbaeljcnbkeipaaDoorW.PrintLast YtbaeljcnbkeipaaDoorW.PrintMore
attribute [local go_sem high] Mine.str_gtr Mine.str_leq Mine.str_geq
attribute [local go_sem] max2_int min2_int max_two min_two max_three min_three max_four min_four   -- for this text's walks alone
set_option linter.unusedVariables false
set_option maxHeartbeats 8000000
set_option maxRecDepth 100000
set_option linter.unusedSimpArgs false
/-! ### impl_FilesOk: function 30 -/
def impl_FilesOk.l0 : Nat → List (S31) → List (S31) → Int → Int → Option (Bool)
 | 0, _, _, _, _ => none
 | k + 1, x0, x5, x6, x7 => if x7 < x6 then (if 0 ≤ x7 then (if x7 < (x5.length : Int) then ((impl_PathOk.f k ((rd_T31 x5 x7).f0)).bind fun a0 => (if a0 = true then (if (((rd_T31 x5 x7).f1).size : Int) > 60 then (some false) else (if x7 > 0 then (if 0 ≤ (wrap64 (x7 - 1)) then (if (wrap64 (x7 - 1)) < (x0.length : Int) then (if ((Op.bytesLess (((rd_T31 x0 (wrap64 (x7 - 1))).f0).toList) (((rd_T31 x5 x7).f0).toList)) = true) then (impl_FilesOk.l0 k x0 x5 x6 (wrap64 (x7 + 1))) else (some false)) else (none)) else (none)) else (impl_FilesOk.l0 k x0 x5 x6 (wrap64 (x7 + 1))))) else (some false))) else (none)) else (none)) else (some (decide ((x0.length : Int) ≤ 30)))
def impl_FilesOk.f (k : Nat) (l0 : List (S31)) : Option (Bool) := impl_FilesOk.l0 k l0 l0 (l0.length : Int) 0
def impl_FilesOk.T4 : Bool × List (List Nat × List Nat) := (true, [([], []), ([0], [0]), ([1], [1]), ([2], [2]), ([3, 2], [3]), ([4], [4]), ([5, 4], [4, 5]), ([6, 4], [4, 6]), ([7, 4], [4, 7]), ([4, 8], [4, 8]), ([9, 4], [9]), ([10], [10]), ([11, 10], [10, 11]), ([12, 10, 10], [10, 12]), ([13], [13]), ([14, 13], [13, 14]), ([13], [13]), ([13], [13]), ([17, 13], [13, 17]), ([16, 18, 13], [13, 16, 18]), ([19, 13], [13, 19]), ([20, 13], [13, 20]), ([15, 21, 13], [13, 15, 21]), ([13, 22, 10], [10, 13, 22]), ([10, 23], [10, 23])])
def impl_FilesOk.B4 : List Nat := [0, 1, 3, 7, 15, 31, 63, 127, 255, 511, 1023, 2047, 4095, 8191, 16383, 32767, 16383, 16383, 147455, 475135, 999423, 2047999, 4194303, 8388607, 16777215]
theorem impl_FilesOk.tab4 : rtab .any (opsOf Tryd.f30 4) = impl_FilesOk.T4 := by kernel_rfl
theorem impl_FilesOk.bits4 : waitsOk impl_FilesOk.T4.2 impl_FilesOk.B4 = true := by kernel_rfl
theorem impl_FilesOk.calls (k : Nat) (A0 : Option Addr) (c0 : Nat) (l0 : List (S31)) (r : Bool) (w : World) (c4 : Kd.C k31 w A0 l0.length l0) (c5 : l0.length ≤ c0) (hG : GW w) (h : impl_FilesOk.f k l0 = some r) :
  Calls Tryd.prog 30 #[.slice A0 l0.length c0] w fun e w' => e = .returned (.bool r) ∧ Below w.heap.size w w' := by
 have e4 := Tryd.underlying31
 have b2 := zA c4
 have e5 := zA c5
 clear c4 c5
 have HG := zA hG
 clear hG
 have HB := zA (Below.refl w.heap.size w)
 unfold impl_FilesOk.f at h
 have H := h
 clear h
 have H' := zA H
 clear H
 go_enter Tryd.func30, Tryd.ntmps30
 go_wp2
 go_loopg [7] k (fun kq v7 w' => ∃ (a0 : Int), v7 = .int .i64 a0 ∧ Aside0 (impl_FilesOk.l0 kq l0 l0 (l0.length : Int) a0 = some r) ∧ Aside0 (kq ≤ k) ∧ Aside0 (Below w.heap.size w w'))
 case atStart => exact ⟨(0), zS, H', ⟨Nat.le_refl _⟩, ⟨zB⟩⟩
 case round =>
  clear H'; obtain ⟨a0, rfl, HA, b8, HB⟩ := hrel
  cases gk with
  | zero => exact absurd HA.out (by simp [impl_FilesOk.l0])
  | succ k1 =>
   have H := HA.out; clear HA; simp only [impl_FilesOk.l0] at H; replace H := zI0 H
   rcases H with ⟨d3, H⟩ | ⟨d3, H⟩
   ·replace H := zD0 H; obtain ⟨e6, H⟩ := H; replace H := zD0 H; obtain ⟨e7, H⟩ := H; replace H := Option.bind_eq_some_iff.mp H; obtain ⟨e8, c6, H⟩ := H
    try dsimp only at H
    have A5 := zA c6; clear c6; replace H := zB0 H
    rcases H with ⟨rfl, H⟩ | ⟨rfl, H⟩
    ·replace H := zI1 H
     rcases H with ⟨c7, H⟩ | ⟨c7, H⟩
     ·have d4 : decide (60 < (((rd_T31 l0 a0).f1).size : Int)) = true := decide_eq_true c7; have d5 : decide (60 < ((rd_T31 l0 a0).f1).size) = true := decide_eq_true (by omega); clear c7; obtain rfl := zm H; have a4 : 0 ≤ (a0 : Int) := zD; have a5 : a0 < (l0.length : Int) := zD; obtain ⟨a8, a9, a6, a7⟩ := at_T31 b2.out a0 a4 a5; cases a9; replace a6 := zx HB a6; replace a7 := zx HB a7; replace a4 := eq_true a4; replace a5 := eq_true a5
      try go_wp2_with (first | ((with_reducible refine gate_dst (N := 4) rfl ?_); (try (refine gate_guard (by rfl) ?_; dsimp only)); refine box_event ?hg (N := 4) ?hd (cs := #[.string (⟨#[]⟩ : ByteArray), .string (⟨#[]⟩ : ByteArray)]) (t := 31) ?hr ?_; (case hd => rfl); (case hg => rfl); (case hr => first | (go_simp; done) | (go_simp; rfl)); intro a2 hg w8 hbox hb; have a1 := zA (hbox); have b9 := zi HB hg; have c1 := zi HB hg; replace HB := zA (below_step (zB) hb); clear hb hbox hg; obtain ⟨e9, f2, f3, f4⟩ := ze2 a1.out))
      generalize hW_ : ((w8.setCell ⟨a2, 0, none⟩ (.string ((rd_T31 l0 a0).f0))).setCell ⟨a2, 1, none⟩ (.string ((rd_T31 l0 a0).f1))) = c8; replace a1 : Aside0 (c8.heap[a2]? = some (.cells #[.string ((rd_T31 l0 a0).f0), .string ((rd_T31 l0 a0).f1)] 31 (0, 0))) := ⟨by subst hW_; (with_reducible repeat (first | refine blk_drewN ?_ _ | refine blk_drew ?_ | refine blk_alloc ?_ _)); refine blk_put (cs := #[.string ((rd_T31 l0 a0).f0), .string (⟨#[]⟩ : ByteArray)]) ?_ 1 _ rfl; (with_reducible repeat (first | refine blk_drewN ?_ _ | refine blk_drew ?_ | refine blk_alloc ?_ _)); refine blk_put (cs := #[.string (⟨#[]⟩ : ByteArray), .string (⟨#[]⟩ : ByteArray)]) ?_ 0 _ rfl; (with_reducible repeat (first | refine blk_drewN ?_ _ | refine blk_drew ?_ | refine blk_alloc ?_ _)); exact a1.out⟩; replace HB := zA (zh2 hW_.symm (zW HB.out)); clear hW_; replace a1 := zA (blk_drew a1.out); replace HB := zA (below_drew1 HB.out)
      refine start_ (n := 25) (S := fun w' => w'.cell? ⟨a2, 0, none⟩ = some (.string ((rd_T31 l0 a0).f0)) ∧ w'.cell? ⟨a2, 1, none⟩ = some (.string ((rd_T31 l0 a0).f1))) (ds := []) (Array.replicate 25 false) (by kernel_rfl) rfl rfl zO fun hHeld => ?_; refine with_tabW impl_FilesOk.tab4 impl_FilesOk.bits4 (fun HT_ HW_ => ?_)
      generalize c8.drew = f5 at a1 HB hHeld ⊢; refine zp 0 12 ?_; refine zt 1 13 ?_
      refine zo 2 (some 14) fun K hK => ?_
      refine goes_ Tryd.func28 (by kernel_rfl) rfl #[.string ((rd_T31 l0 a0).f0)] (by rfl) rfl rfl zM ?_
      with_reducible refine (impl_PathOk.calls k1 ((rd_T31 l0 a0).f0) true _ ?s1 A5.out).mono ?_
      (case s1 => exact GW.below HG.out (zW HB.out))
      rintro e f6 ⟨rfl, hb⟩
      refine ⟨_, rfl, ?_⟩
      replace a1 := zb a1 hb; replace HB := zh HB hb
      (try clear hb)
      refine hK.out _ _ zO fun hHeld => ?_
      clear hK K; refine zn ?_; refine zp 3 15 ?_; refine zp 4 16 ?_; refine zp 5 17 ?_; refine zt 6 18 ?_; refine zp 7 19 ?_; refine zp 8 20 ?_; refine zp 9 21 ?_; refine zp 10 22 ?_; refine zu 11 23 ?_; refine zu 12 24 ?_; refine zu 13 25 ?_; refine zu 14 26 ?_; refine zu 15 27 ?_; refine zu 16 28 ?_; refine zu 17 29 ?_; refine zu 18 30 ?_; refine zu 19 31 ?_; refine zu 20 32 ?_; refine zu 21 33 ?_; refine zu 22 34 ?_; refine zu 23 35 ?_; refine zp 24 36 ?_
      refine done_ (done_of HT_.out (by kernel_rfl)) ?_
      try go_wp2
      go_ret
      exact ⟨zE, zW HB.out⟩
     have d4 : decide (60 < (((rd_T31 l0 a0).f1).size : Int)) = false := decide_eq_false c7; have d5 : decide (60 < ((rd_T31 l0 a0).f1).size) = false := decide_eq_false (by omega); clear c7; replace H := zI1 H
     rcases H with ⟨b5, H⟩ | ⟨b5, H⟩
     ·have d6 : decide (0 < a0) = true := decide_eq_true b5; clear b5; obtain ⟨a3, b6⟩ : ∃ j_ : Int, (wrap64 (a0 - 1)) = j_ := ⟨_, rfl⟩
      replace H : (if 0 ≤ (a3) then (if (a3) < (l0.length : Int) then (if ((Op.bytesLess (((rd_T31 l0 (a3)).f0).toList) (((rd_T31 l0 a0).f0).toList)) = true) then (impl_FilesOk.l0 k1 l0 l0 (l0.length : Int) (wrap64 (a0 + 1))) else (some false)) else (none)) else (none)) = some r := by first | (rw [b6] at H; exact H) | (simp only [b6] at H ⊢; exact H)
      (try rw [b6] at A5)
      have hji14w : (IntKind.i64.wrap (a0 - 1)) = a3 := (i64_w _).trans b6; replace H := zD0 H; obtain ⟨f7, H⟩ := H; replace H := zD0 H; obtain ⟨f8, H⟩ := H; replace H := zI1 H
      rcases H with ⟨b7, H⟩ | ⟨b7, H⟩
      ·have d7 : (Op.bytesLess (((rd_T31 l0 (a3)).f0).toList) (((rd_T31 l0 a0).f0).toList)) = true := b7; clear b7; have H' := zA H; clear H; have a4 : 0 ≤ (a0 : Int) := zD; have a5 : a0 < (l0.length : Int) := zD; obtain ⟨a8, a9, a6, a7⟩ := at_T31 b2.out a0 a4 a5; cases a9; replace a6 := zx HB a6; replace a7 := zx HB a7; replace a4 := eq_true a4; replace a5 := eq_true a5
       try go_wp2_with (first | ((with_reducible refine gate_dst (N := 4) rfl ?_); (try (refine gate_guard (by rfl) ?_; dsimp only)); refine box_event ?hg (N := 4) ?hd (cs := #[.string (⟨#[]⟩ : ByteArray), .string (⟨#[]⟩ : ByteArray)]) (t := 31) ?hr ?_; (case hd => rfl); (case hg => rfl); (case hr => first | (go_simp; done) | (go_simp; rfl)); intro a2 hg d8 hbox hb; have a1 := zA (hbox); have b9 := zi HB hg; have c1 := zi HB hg; replace HB := zA (below_step (zB) hb); clear hb hbox hg; obtain ⟨f9, g0, g1, g2⟩ := ze2 a1.out))
       generalize hW_ : ((d8.setCell ⟨a2, 0, none⟩ (.string ((rd_T31 l0 a0).f0))).setCell ⟨a2, 1, none⟩ (.string ((rd_T31 l0 a0).f1))) = c9; replace a1 : Aside0 (c9.heap[a2]? = some (.cells #[.string ((rd_T31 l0 a0).f0), .string ((rd_T31 l0 a0).f1)] 31 (0, 0))) := ⟨by subst hW_; (with_reducible repeat (first | refine blk_drewN ?_ _ | refine blk_drew ?_ | refine blk_alloc ?_ _)); refine blk_put (cs := #[.string ((rd_T31 l0 a0).f0), .string (⟨#[]⟩ : ByteArray)]) ?_ 1 _ rfl; (with_reducible repeat (first | refine blk_drewN ?_ _ | refine blk_drew ?_ | refine blk_alloc ?_ _)); refine blk_put (cs := #[.string (⟨#[]⟩ : ByteArray), .string (⟨#[]⟩ : ByteArray)]) ?_ 0 _ rfl; (with_reducible repeat (first | refine blk_drewN ?_ _ | refine blk_drew ?_ | refine blk_alloc ?_ _)); exact a1.out⟩; replace HB := zA (zh2 hW_.symm (zW HB.out)); clear hW_; replace a1 := zA (blk_drew a1.out); replace HB := zA (below_drew1 HB.out); have b3 : 0 ≤ ((a3) : Int) := zD; have b4 : (a3) < (l0.length : Int) := zD; obtain ⟨c2, c3, b0, b1⟩ := at_T31 b2.out (a3) b3 b4; have d9 := b1; have e0 := b0; obtain rfl : a8 = c2 := (by injection c3); replace b0 := zx HB b0; replace b1 := zx HB b1; replace b3 := eq_true b3; replace b4 := eq_true b4
       refine start_ (n := 25) (S := fun w' => w'.cell? ⟨a2, 0, none⟩ = some (.string ((rd_T31 l0 a0).f0)) ∧ w'.cell? ⟨a2, 1, none⟩ = some (.string ((rd_T31 l0 a0).f1)) ∧ w'.cell? (a8.add (((a3)).toNat * 2)) = some (.string ((rd_T31 l0 (a3)).f0)) ∧ w'.cell? ⟨(a8.add (((a3)).toNat * 2)).block, (a8.add (((a3)).toNat * 2)).off + 1, none⟩ = some (.string ((rd_T31 l0 (a3)).f1))) (ds := []) (Array.replicate 25 false) (by kernel_rfl) rfl rfl zO fun hHeld => ?_; refine with_tabW impl_FilesOk.tab4 impl_FilesOk.bits4 (fun HT_ HW_ => ?_)
       generalize c9.drew = g3 at a1 HB b0 b1 hHeld ⊢; refine zp 0 12 ?_; refine zt 1 13 ?_
       refine zo 2 (some 14) fun K hK => ?_
       refine goes_ Tryd.func28 (by kernel_rfl) rfl #[.string ((rd_T31 l0 a0).f0)] (by rfl) rfl rfl zM ?_
       with_reducible refine (impl_PathOk.calls k1 ((rd_T31 l0 a0).f0) true _ ?s1 A5.out).mono ?_
       (case s1 => exact GW.below HG.out (zW HB.out))
       rintro e g4 ⟨rfl, hb⟩
       refine ⟨_, rfl, ?_⟩
       replace a1 := zb a1 hb; replace HB := zh HB hb
       (try clear hb)
       refine hK.out _ _ zO fun hHeld => ?_
       clear hK K; refine zn ?_; refine zp 3 15 ?_; refine zp 4 16 ?_; refine zp 5 17 ?_; refine zt 6 18 ?_; refine zp 7 19 ?_; refine zp 8 20 ?_; refine zp 9 21 ?_; refine zp 10 22 ?_; refine zp 11 23 ?_; refine zp 12 24 ?_; refine zp 13 25 ?_; refine zp 14 26 ?_; refine zp 16 28 ?_; refine zp 17 29 ?_; refine zp 18 30 ?_; refine zp 19 31 ?_; refine zp 20 32 ?_; refine zt 15 27 ?_; refine zt 21 33 ?_; refine zp 22 34 ?_; refine zp 23 35 ?_; refine zp 24 36 ?_
       refine done_ (done_of HT_.out (by kernel_rfl)) ?_
       try go_wp2
       go_roundg k1
       case measure => have := b8.out; omega
       case rel => exact ⟨(wrap64 (a0 + 1)), zS, H', ⟨by have := b8.out; omega⟩, ⟨zW HB.out⟩⟩
      have d7 : (Op.bytesLess (((rd_T31 l0 (a3)).f0).toList) (((rd_T31 l0 a0).f0).toList)) = false := by simpa using b7
      clear b7; obtain rfl := zm H; have a4 : 0 ≤ (a0 : Int) := zD; have a5 : a0 < (l0.length : Int) := zD; obtain ⟨a8, a9, a6, a7⟩ := at_T31 b2.out a0 a4 a5; cases a9; replace a6 := zx HB a6; replace a7 := zx HB a7; replace a4 := eq_true a4; replace a5 := eq_true a5
      try go_wp2_with (first | ((with_reducible refine gate_dst (N := 4) rfl ?_); (try (refine gate_guard (by rfl) ?_; dsimp only)); refine box_event ?hg (N := 4) ?hd (cs := #[.string (⟨#[]⟩ : ByteArray), .string (⟨#[]⟩ : ByteArray)]) (t := 31) ?hr ?_; (case hd => rfl); (case hg => rfl); (case hr => first | (go_simp; done) | (go_simp; rfl)); intro a2 hg e1 hbox hb; have a1 := zA (hbox); have b9 := zi HB hg; have c1 := zi HB hg; replace HB := zA (below_step (zB) hb); clear hb hbox hg; obtain ⟨g5, g6, g7, g8⟩ := ze2 a1.out))
      generalize hW_ : ((e1.setCell ⟨a2, 0, none⟩ (.string ((rd_T31 l0 a0).f0))).setCell ⟨a2, 1, none⟩ (.string ((rd_T31 l0 a0).f1))) = d0; replace a1 : Aside0 (d0.heap[a2]? = some (.cells #[.string ((rd_T31 l0 a0).f0), .string ((rd_T31 l0 a0).f1)] 31 (0, 0))) := ⟨by subst hW_; (with_reducible repeat (first | refine blk_drewN ?_ _ | refine blk_drew ?_ | refine blk_alloc ?_ _)); refine blk_put (cs := #[.string ((rd_T31 l0 a0).f0), .string (⟨#[]⟩ : ByteArray)]) ?_ 1 _ rfl; (with_reducible repeat (first | refine blk_drewN ?_ _ | refine blk_drew ?_ | refine blk_alloc ?_ _)); refine blk_put (cs := #[.string (⟨#[]⟩ : ByteArray), .string (⟨#[]⟩ : ByteArray)]) ?_ 0 _ rfl; (with_reducible repeat (first | refine blk_drewN ?_ _ | refine blk_drew ?_ | refine blk_alloc ?_ _)); exact a1.out⟩; replace HB := zA (zh2 hW_.symm (zW HB.out)); clear hW_; replace a1 := zA (blk_drew a1.out); replace HB := zA (below_drew1 HB.out); have b3 : 0 ≤ ((a3) : Int) := zD; have b4 : (a3) < (l0.length : Int) := zD; obtain ⟨c2, c3, b0, b1⟩ := at_T31 b2.out (a3) b3 b4; have d9 := b1; have e0 := b0; obtain rfl : a8 = c2 := (by injection c3); replace b0 := zx HB b0; replace b1 := zx HB b1; replace b3 := eq_true b3; replace b4 := eq_true b4
      refine start_ (n := 25) (S := fun w' => w'.cell? ⟨a2, 0, none⟩ = some (.string ((rd_T31 l0 a0).f0)) ∧ w'.cell? ⟨a2, 1, none⟩ = some (.string ((rd_T31 l0 a0).f1)) ∧ w'.cell? (a8.add (((a3)).toNat * 2)) = some (.string ((rd_T31 l0 (a3)).f0)) ∧ w'.cell? ⟨(a8.add (((a3)).toNat * 2)).block, (a8.add (((a3)).toNat * 2)).off + 1, none⟩ = some (.string ((rd_T31 l0 (a3)).f1))) (ds := []) (Array.replicate 25 false) (by kernel_rfl) rfl rfl zO fun hHeld => ?_; refine with_tabW impl_FilesOk.tab4 impl_FilesOk.bits4 (fun HT_ HW_ => ?_)
      generalize d0.drew = g9 at a1 HB b0 b1 hHeld ⊢; refine zp 0 12 ?_; refine zt 1 13 ?_
      refine zo 2 (some 14) fun K hK => ?_
      refine goes_ Tryd.func28 (by kernel_rfl) rfl #[.string ((rd_T31 l0 a0).f0)] (by rfl) rfl rfl zM ?_
      with_reducible refine (impl_PathOk.calls k1 ((rd_T31 l0 a0).f0) true _ ?s1 A5.out).mono ?_
      (case s1 => exact GW.below HG.out (zW HB.out))
      rintro e h0 ⟨rfl, hb⟩
      refine ⟨_, rfl, ?_⟩
      replace a1 := zb a1 hb; replace HB := zh HB hb
      (try clear hb)
      refine hK.out _ _ zO fun hHeld => ?_
      clear hK K; refine zn ?_; refine zp 3 15 ?_; refine zp 4 16 ?_; refine zp 5 17 ?_; refine zt 6 18 ?_; refine zp 7 19 ?_; refine zp 8 20 ?_; refine zp 9 21 ?_; refine zp 10 22 ?_; refine zp 11 23 ?_; refine zp 12 24 ?_; refine zp 13 25 ?_; refine zp 14 26 ?_; refine zp 16 28 ?_; refine zp 17 29 ?_; refine zp 18 30 ?_; refine zp 19 31 ?_; refine zp 20 32 ?_; refine zt 15 27 ?_; refine zt 21 33 ?_; refine zp 22 34 ?_; refine zp 23 35 ?_; refine zp 24 36 ?_
      refine done_ (done_of HT_.out (by kernel_rfl)) ?_
      try go_wp2
      go_ret
      exact ⟨by first | rfl | (simp [errW_none, errW_some] <;> rfl) | (simp only [← b6]; first | rfl | (simp [errW_none, errW_some] <;> rfl)) | (simp [*, errW_none, errW_some] <;> rfl), zW HB.out⟩
     have d6 : decide (0 < a0) = false := decide_eq_false b5; clear b5; have H' := zA H; clear H; have a4 : 0 ≤ (a0 : Int) := zD; have a5 : a0 < (l0.length : Int) := zD; obtain ⟨a8, a9, a6, a7⟩ := at_T31 b2.out a0 a4 a5; cases a9; replace a6 := zx HB a6; replace a7 := zx HB a7; replace a4 := eq_true a4; replace a5 := eq_true a5
     try go_wp2_with (first | ((with_reducible refine gate_dst (N := 4) rfl ?_); (try (refine gate_guard (by rfl) ?_; dsimp only)); refine box_event ?hg (N := 4) ?hd (cs := #[.string (⟨#[]⟩ : ByteArray), .string (⟨#[]⟩ : ByteArray)]) (t := 31) ?hr ?_; (case hd => rfl); (case hg => rfl); (case hr => first | (go_simp; done) | (go_simp; rfl)); intro a2 hg e2 hbox hb; have a1 := zA (hbox); have b9 := zi HB hg; have c1 := zi HB hg; replace HB := zA (below_step (zB) hb); clear hb hbox hg; obtain ⟨h1, h2, h3, h4⟩ := ze2 a1.out))
     generalize hW_ : ((e2.setCell ⟨a2, 0, none⟩ (.string ((rd_T31 l0 a0).f0))).setCell ⟨a2, 1, none⟩ (.string ((rd_T31 l0 a0).f1))) = d1; replace a1 : Aside0 (d1.heap[a2]? = some (.cells #[.string ((rd_T31 l0 a0).f0), .string ((rd_T31 l0 a0).f1)] 31 (0, 0))) := ⟨by subst hW_; (with_reducible repeat (first | refine blk_drewN ?_ _ | refine blk_drew ?_ | refine blk_alloc ?_ _)); refine blk_put (cs := #[.string ((rd_T31 l0 a0).f0), .string (⟨#[]⟩ : ByteArray)]) ?_ 1 _ rfl; (with_reducible repeat (first | refine blk_drewN ?_ _ | refine blk_drew ?_ | refine blk_alloc ?_ _)); refine blk_put (cs := #[.string (⟨#[]⟩ : ByteArray), .string (⟨#[]⟩ : ByteArray)]) ?_ 0 _ rfl; (with_reducible repeat (first | refine blk_drewN ?_ _ | refine blk_drew ?_ | refine blk_alloc ?_ _)); exact a1.out⟩; replace HB := zA (zh2 hW_.symm (zW HB.out)); clear hW_; replace a1 := zA (blk_drew a1.out); replace HB := zA (below_drew1 HB.out)
     refine start_ (n := 25) (S := fun w' => w'.cell? ⟨a2, 0, none⟩ = some (.string ((rd_T31 l0 a0).f0)) ∧ w'.cell? ⟨a2, 1, none⟩ = some (.string ((rd_T31 l0 a0).f1))) (ds := []) (Array.replicate 25 false) (by kernel_rfl) rfl rfl zO fun hHeld => ?_; refine with_tabW impl_FilesOk.tab4 impl_FilesOk.bits4 (fun HT_ HW_ => ?_)
     generalize d1.drew = h5 at a1 HB hHeld ⊢; refine zp 0 12 ?_; refine zt 1 13 ?_
     refine zo 2 (some 14) fun K hK => ?_
     refine goes_ Tryd.func28 (by kernel_rfl) rfl #[.string ((rd_T31 l0 a0).f0)] (by rfl) rfl rfl zM ?_
     with_reducible refine (impl_PathOk.calls k1 ((rd_T31 l0 a0).f0) true _ ?s1 A5.out).mono ?_
     (case s1 => exact GW.below HG.out (zW HB.out))
     rintro e h6 ⟨rfl, hb⟩
     refine ⟨_, rfl, ?_⟩
     replace a1 := zb a1 hb; replace HB := zh HB hb
     (try clear hb)
     refine hK.out _ _ zO fun hHeld => ?_
     clear hK K; refine zn ?_; refine zp 3 15 ?_; refine zp 4 16 ?_; refine zp 5 17 ?_; refine zt 6 18 ?_; refine zp 7 19 ?_; refine zp 8 20 ?_; refine zp 9 21 ?_; refine zp 10 22 ?_; refine zp 11 23 ?_; refine zp 12 24 ?_; refine zp 13 25 ?_; refine zu 14 26 ?_; refine zu 15 27 ?_; refine zu 16 28 ?_; refine zu 17 29 ?_; refine zu 18 30 ?_; refine zu 19 31 ?_; refine zu 20 32 ?_; refine zu 21 33 ?_; refine zu 22 34 ?_; refine zp 23 35 ?_; refine zp 24 36 ?_
     refine done_ (done_of HT_.out (by kernel_rfl)) ?_
     try go_wp2
     go_roundg k1
     case measure => have := b8.out; omega
     case rel => exact ⟨(wrap64 (a0 + 1)), zS, H', ⟨by have := b8.out; omega⟩, ⟨zW HB.out⟩⟩
    obtain rfl := zm H; have a4 : 0 ≤ (a0 : Int) := zD; have a5 : a0 < (l0.length : Int) := zD; obtain ⟨a8, a9, a6, a7⟩ := at_T31 b2.out a0 a4 a5; cases a9; replace a6 := zx HB a6; replace a7 := zx HB a7; replace a4 := eq_true a4; replace a5 := eq_true a5
    try go_wp2_with (first | ((with_reducible refine gate_dst (N := 4) rfl ?_); (try (refine gate_guard (by rfl) ?_; dsimp only)); refine box_event ?hg (N := 4) ?hd (cs := #[.string (⟨#[]⟩ : ByteArray), .string (⟨#[]⟩ : ByteArray)]) (t := 31) ?hr ?_; (case hd => rfl); (case hg => rfl); (case hr => first | (go_simp; done) | (go_simp; rfl)); intro a2 hg e3 hbox hb; have a1 := zA (hbox); have b9 := zi HB hg; have c1 := zi HB hg; replace HB := zA (below_step (zB) hb); clear hb hbox hg; obtain ⟨h7, h8, h9, i0⟩ := ze2 a1.out))
    generalize hW_ : ((e3.setCell ⟨a2, 0, none⟩ (.string ((rd_T31 l0 a0).f0))).setCell ⟨a2, 1, none⟩ (.string ((rd_T31 l0 a0).f1))) = d2; replace a1 : Aside0 (d2.heap[a2]? = some (.cells #[.string ((rd_T31 l0 a0).f0), .string ((rd_T31 l0 a0).f1)] 31 (0, 0))) := ⟨by subst hW_; (with_reducible repeat (first | refine blk_drewN ?_ _ | refine blk_drew ?_ | refine blk_alloc ?_ _)); refine blk_put (cs := #[.string ((rd_T31 l0 a0).f0), .string (⟨#[]⟩ : ByteArray)]) ?_ 1 _ rfl; (with_reducible repeat (first | refine blk_drewN ?_ _ | refine blk_drew ?_ | refine blk_alloc ?_ _)); refine blk_put (cs := #[.string (⟨#[]⟩ : ByteArray), .string (⟨#[]⟩ : ByteArray)]) ?_ 0 _ rfl; (with_reducible repeat (first | refine blk_drewN ?_ _ | refine blk_drew ?_ | refine blk_alloc ?_ _)); exact a1.out⟩; replace HB := zA (zh2 hW_.symm (zW HB.out)); clear hW_; replace a1 := zA (blk_drew a1.out); replace HB := zA (below_drew1 HB.out)
    refine start_ (n := 25) (S := fun w' => w'.cell? ⟨a2, 0, none⟩ = some (.string ((rd_T31 l0 a0).f0)) ∧ w'.cell? ⟨a2, 1, none⟩ = some (.string ((rd_T31 l0 a0).f1))) (ds := []) (Array.replicate 25 false) (by kernel_rfl) rfl rfl zO fun hHeld => ?_; refine with_tabW impl_FilesOk.tab4 impl_FilesOk.bits4 (fun HT_ HW_ => ?_)
    generalize d2.drew = i1 at a1 HB hHeld ⊢; refine zp 0 12 ?_; refine zt 1 13 ?_
    refine zo 2 (some 14) fun K hK => ?_
    refine goes_ Tryd.func28 (by kernel_rfl) rfl #[.string ((rd_T31 l0 a0).f0)] (by rfl) rfl rfl zM ?_
    with_reducible refine (impl_PathOk.calls k1 ((rd_T31 l0 a0).f0) false _ ?s1 A5.out).mono ?_
    (case s1 => exact GW.below HG.out (zW HB.out))
    rintro e i2 ⟨rfl, hb⟩
    refine ⟨_, rfl, ?_⟩
    replace a1 := zb a1 hb; replace HB := zh HB hb
    (try clear hb)
    refine hK.out _ _ zO fun hHeld => ?_
    clear hK K; refine zn ?_; refine zp 3 15 ?_; refine zp 4 16 ?_; refine zu 5 17 ?_; refine zu 6 18 ?_; refine zu 7 19 ?_; refine zu 8 20 ?_; refine zp 9 21 ?_; refine zp 10 22 ?_; refine zu 11 23 ?_; refine zu 12 24 ?_; refine zu 13 25 ?_; refine zu 14 26 ?_; refine zu 15 27 ?_; refine zu 16 28 ?_; refine zu 17 29 ?_; refine zu 18 30 ?_; refine zu 19 31 ?_; refine zu 20 32 ?_; refine zu 21 33 ?_; refine zu 22 34 ?_; refine zu 23 35 ?_; refine zp 24 36 ?_
    refine done_ (done_of HT_.out (by kernel_rfl)) ?_
    try go_wp2
    go_ret
    exact ⟨zE, zW HB.out⟩
   obtain rfl := zm H
   go_wp2
   go_ret
   exact ⟨zE, zB⟩
/-! ### impl_File_59: function 59 -/
def impl_File_59.f (l0 : List (S31)) : Option ((List (S31))) := (some (([] : List (S31)) : List (S31))).bind fun a0 => (if a0.length + l0.length < 4398046511104 then (some (a0 ++ l0)) else (none))
theorem impl_File_59.calls (A0 : Option Addr) (c0 : Nat) (l0 : List (S31)) (r : List (S31)) (w : World) (a5 : Kd.C k31 w A0 l0.length l0) (a6 : l0.length ≤ c0) (h : impl_File_59.f l0 = some r) :
  Calls Tryd.prog 59 #[.slice A0 l0.length c0] w fun e w' => ∃ a7 : Value, e = .returned (a7) ∧ Kd.R k31 31 w' w.heap.size (fun _ => True) a7 r ∧ Below w.heap.size w w' := by
 have a8 := zA a5
 have b5 := zA a6
 clear a5 a6
 have HB := zA (Below.refl w.heap.size w)
 unfold impl_File_59.f at h
 have H := h
 clear h
 obtain ⟨a1, a2⟩ : ∃ y_ : List (S31), y_ = (([] : List (S31))) := ⟨_, rfl⟩
 replace H : (if a1.length + l0.length < 4398046511104 then (some (a1 ++ l0)) else (none)) = some r := zY a2 H
 have a3 := zA a2
 clear a2
 replace H := zC0 H
 obtain ⟨c2, H⟩ := H
 have b1 := zA c2
 clear c2
 obtain ⟨b2, a4⟩ : ∃ y_ : List (S31), y_ = (a1 ++ l0) := ⟨_, rfl⟩
 replace H : (some b2) = some r := zY a4 H
 have a9 := zA a4
 clear a4
 obtain rfl := zm H
 rcases A0 with _ | A0v
 ·have he_ : l0 = [] := by
   rcases l0 with _ | ⟨x_, l_⟩
   ·rfl
   ·obtain ⟨_, h_, _⟩ := a8.out.2.2 (by simp); cases h_
  subst he_
  have hq_ : ∀ W : World, Sem.run Tryd.prog (Go.binOp .eql 27 (.slice none 0 c0) (.slice none 0 0)) W = .ok (.bool true) W := fun W => by rw [Lib.run_eql_slice_nil W 27 31 none 0 c0 0 0 Tryd.underlying27]; rfl
  go_enter Tryd.func59, Tryd.ntmps59
  go_wp2
  go_ret
  exact ⟨_, rfl, (by rw [a9.out, a3.out]; exact Kd.R_nil _ _ _ _ _), zB⟩
 have hq_ : ∀ W : World, Sem.run Tryd.prog (Go.binOp .eql 27 (.slice (some A0v) l0.length c0) (.slice none 0 0)) W = .ok (.bool false) W := fun W => by rw [Lib.run_eql_slice_nil W 27 31 (some A0v) l0.length c0 0 0 Tryd.underlying27]; rfl
 go_enter Tryd.func59, Tryd.ntmps59
 go_wp2_with (first | ((with_reducible refine gate_dst (N := 5) rfl ?_); refine Kd.R_lit k31 _ 31 ?hg (N := 5) ?hd (xs := ([] : List (S31))) (inner := []) (ok := fun _ => True) ?hr ?hp (fun _ hk => hk) trivial (Below.refl _ _) (Nat.le_refl _) (by simp) ?_; (case hd => rfl); (case hg => rfl); (case hr => first | (go_simp; done) | (go_simp; rfl)); (case hp => exact (Reps.none _ _)); intro b3 w3 a0 hb hg_ hnew_; clear hg_ hnew_; (first | rw [← a3.out] at a0 | (simp only [Int.reduceToNat] at a0; rw [← a3.out] at a0)); have b0 := zA (Kd.R_lower a0 (below_size (zB))); replace HB := zA (below_step (zB) hb); clear hb a0) | ((with_reducible refine gate_builtin (b := .append) (xs := #[.tmp 5, .tmp 6]) rfl ?_); at_builtin; refine Kd.R_append_rows k31 (w0 := w) w.heap.size rfl (.tmp 5) (.tmp 6) 27 31 (.agg #[(.string ⟨#[]⟩), (.string ⟨#[]⟩)]) 32 rfl Tryd.underlying27 info31 rfl (by decide) (by omega) b3 a1 l0 _ _ _ (fun _ => True) (fun _ => False) rfl rfl ?aO ?aR (fun _ _ h => h) (fun _ h => h.elim) ?aF ?aB ?aS ?aL ?_; (case aR => repeat (first | exact (Kd.C_below a8.out HB.out) | (with_reducible refine Kd.C_alloc ?_ _) | (with_reducible refine Kd.C_drewN ?_ _) | (with_reducible refine Kd.C_drew ?_))); (case aB => exact (zB)); (case aF => exact (fun _ _ => trivial)); (case aO => exact (zR b0.out)); (case aS => exact (below_size (zB))); (case aL => have := b1.out; omega); intro b6 w5 ho hb hg hat; rw [← a9.out] at ho; replace HB := zA (hb); have b4 := zA (ho); clear b0; clear ho hb hg hat))
 go_ret
 exact ⟨_, zE, zR b4.out, zB⟩
-- NOT PRINTED: function 70 (impl_File_70)
/-! ### impl_DropFile: function 24 -/
theorem impl_DropFile.run_clear_two (P : Program) (w : World) (t e ty : TypeId) (z1 z2 : Value) (ht : P.underlying t = some (.slice e)) (hv : ∀ w, (zeroValue e).run P w = .ok (.agg #[z1, z2]) w) (h1 : z1.oneCell' = true) (h2 : z2.oneCell' = true) (b o c : Nat)
  (hc : ∀ j, j < 2 → (w.cell? ⟨b, o + j, none⟩).isSome = true) (hf : ∀ j, j < 2 → w.frozen? ⟨b, o + j, none⟩ = false) :
  (Builtin.clear_ #[t] ty #[.slice (some ⟨b, o, none⟩) 1 c]).run P w = .ok (.tuple #[]) (w.setCells b o [z1, z2]) := by
 have hzc : (Builtin.zeroCells (Value.cells (.agg #[z1, z2])) 1).toList = [z1, z2] := by
  have e : Value.cells (.agg #[z1, z2]) = #[z1, z2] := by first | rfl | simp [Value.cells]
  rw [e]
  simp [Builtin.zeroCells]
  apply List.ext_getElem
  ·simp
  ·intro i h1 h2
   match i, h2 with
   | 0, _ => simp
   | 1, _ => simp
 have hst := run_storeCells_cells (P := P) b o [z1, z2] 0 w (by simpa using hc) (by simpa using hf) (by intro v hv'; simp at hv'; rcases hv' with rfl | rfl <;> assumption)
 simp only [Nat.add_zero] at hst
 simp [Builtin.clear_, run_underlying ht, hv, hzc, hst]
theorem impl_DropFile.grown_clear {w w1 : World} {g : Nat} (h : w.grownBy w1 (some g)) (o : Nat) (vs : List Value) : w.grownBy (w1.setCells g o vs) (some g) := by
 obtain ⟨s1, s2, s3, s4⟩ := setCells_same g vs o w1
 exact ⟨s1.trans h.os, s2.trans h.tape, s3.trans h.output, by rw [s4]; exact h.size, fun k hk hne => (setCells_far vs o k (fun e => hne (by rw [e]))).trans (h.block k hk hne)⟩
theorem impl_DropFile.R_clear_tail {w : World} {base g m c : Nat} {ok : Nat → Prop} {xs : List S31} {cur : Array Value} (h : Kd.R k31 31 w base ok (.slice (some ⟨g, 0, none⟩) m c) xs) (hcur : w.heap[g]? = some (.cells cur 31 (0, 0))) (hcs : cur.size = c * 2) (hm : m + 1 ≤ c) :
  Kd.R k31 31 (w.setCells g (m * 2) [.string ⟨#[]⟩, .string ⟨#[]⟩]) base ok (.slice (some ⟨g, 0, none⟩) m c) xs := by
 obtain ⟨hok, inner, hown, hr⟩ := h
 obtain ⟨cur', hh', hs', ht'⟩ := setCells_row [.string ⟨#[]⟩, .string ⟨#[]⟩] (m * 2) w cur hcur (by simp; omega)
 have hr' := hr.imp_ (R' := k31.M (w.setCells g (m * 2) [.string ⟨#[]⟩, .string ⟨#[]⟩]) base (fun k => ok k ∧ some k ≠ (Value.slice (some ⟨g, 0, none⟩) m c).ownBlock)) (fun x cs hp => by
  rw [k31_openM hp]
  exact k31_mkM _ _ _ _)
 refine ⟨hok, inner, ⟨hown.1, ?_⟩, hr'⟩
 rcases hown.2 with ⟨hv, _⟩ | ⟨g', cap', a1, hv, hb, hh, hmc, hcm, a0, htake⟩
 ·cases hv
 ·injection hv with ha hm' hc; injection ha with ha; injection ha with hg; subst hg; subst hc; subst hm'; rw [hh] at hcur; injection hcur with hcur; injection hcur with hcur; subst hcur
  refine .inr ⟨g, c, cur', rfl, hb, hh', hmc, hcm, by rw [hs', a0], ?_⟩
  rw [ht', List.append_assoc, show k31.sz = 2 from rfl, List.take_append_of_le_length (by rw [List.length_take]; simp; omega), List.take_take, Nat.min_self]
  exact htake
set_option maxHeartbeats 4000000 in
set_option maxRecDepth 1000000 in
theorem impl_DropFile.delete (g n c i j : Nat) (l : List S31) (base : Nat) (ok : Nat → Prop) (w : World) (HR : Kd.R k31 31 w base ok (.slice (some ⟨g, 0, none⟩) n c) l) (hi : i < n) (hj : j = i + 1) (hb : base ≤ w.heap.size) :
  Calls Tryd.prog 70 #[.slice (some ⟨g, 0, none⟩) n c, .int .i64 (i : Int), .int .i64 (j : Int)] w fun e w' => e = .returned (.slice (some ⟨g, 0, none⟩) (n - 1) c) ∧ Kd.R k31 31 w' base ok (.slice (some ⟨g, 0, none⟩) (n - 1) c) (l.eraseIdx i) ∧ w.grownBy w' (some g) := by
 obtain ⟨i0, a7, a8, b0, b1⟩ := info_parts info31
 have b2 := Tryd.underlying27
 obtain ⟨hn, hnc, hC⟩ := Kd.R_reads' HR
 have hcm : c ≤ maxLen := by
  obtain ⟨_, inner, hown, _⟩ := HR
  rcases hown.2 with ⟨hv, _⟩ | ⟨g', cap', cur, hv, _, _, _, hcm, _⟩
  ·cases hv
  ·injection hv with _ _ hc; subst hc
   exact hcm
 have hcm : c ≤ 9223372036854775807 := by unfold maxLen at hcm; omega
 have mixed : Tryd.prog.follows .mixedOrders = true := by kernel_rfl
 have hjn : j ≤ n := by omega
 have hij : i ≤ j := by omega
 have hjc : j ≤ c := by omega
 have hic : i ≤ c := by omega
 have hne : (((i : Int)) == ((j : Nat) : Int)) = false := by rw [beq_eq_false_iff_ne]; omega
 have J := zA hj
 have X := zA (Kd.R_drew HR)
 have HBB := zA hb
 have HN := zA hn
 obtain ⟨m, hm⟩ : ∃ m, m = n - 1 := ⟨_, rfl⟩
 have hmn : m ≤ n := by omega
 have hmc : m ≤ c := by omega
 have b3 : ¬ c = m := by omega
 have h1 : n - m = 1 := by omega
 have M := zA hm
 clear HR hC hb hj hn hm
 go_enter Tryd.func70, Tryd.ntmps70
 go_wp2_with fail
 go_region_law_o (refine Kd.R_delete_step k31 (w0 := w.drew) base rfl (.tmp 22) (.tmp 25) 27 31 rfl Tryd.underlying27 (by kernel_rfl) (g := g) (n := n) (c := c) (k := i) (m := n - j) (c2 := c - j) (A := if c = j then some ⟨g, 0, none⟩ else some ⟨g, j * 2, none⟩) (by simp [Act.eval, Act.put]) (by simp [Act.eval, Act.put]) (by rw [J.out]; simp [Addr.add_lit, show k31.sz = 2 from rfl]) (by rw [J.out]) X.out hi (Below.refl _ _) HBB.out ?_; intro w1 a1 a9 a4; rw [← M.out] at a1 ⊢)
 have a5 := zA a1
 have a0 := zA a4
 obtain ⟨W2, a2⟩ : ∃ W2, W2 = w1.setCells g (m * 2) [.string ⟨#[]⟩, .string ⟨#[]⟩] := ⟨_, rfl⟩
 obtain ⟨cur, hcur, hcs⟩ : ∃ cur, w1.heap[g]? = some (.cells cur 31 (0, 0)) ∧ cur.size = c * 2 := by
  obtain ⟨_, inner, hown, _⟩ := a1
  rcases hown.2 with ⟨hv, _⟩ | ⟨g', cap', cur, hv, _, hh, _, _, hcs, _⟩
  ·cases hv
  ·injection hv with ha _ hc; injection ha with ha; injection ha with hg; subst hg; subst hc
   exact ⟨cur, hh, hcs⟩
 have hcl : ∀ ty, (Builtin.clear_ #[27] ty #[.slice (some ⟨g, m * 2, none⟩) 1 (c - m)]).run Tryd.prog w1 = .ok (.tuple #[]) W2 := fun ty => by
  rw [a2]
  refine impl_DropFile.run_clear_two Tryd.prog w1 27 31 ty _ _ Tryd.underlying27 (fun W => by simp [zeroValue, typeInfo, a7, a8]) rfl rfl g (m * 2) (c - m) (fun q hq => ?_) (fun q hq => ?_)
  ·unfold World.cell?
   simp only [hcur]
   simp
   omega
  ·unfold World.frozen?
   simp only [hcur]
   simp
 have a6 := zA a2
 have HCUR := zA hcur
 have HCS := zA hcs
 clear a1 a9 a4 a2 hcur hcs
 have HF : Aside0 (Kd.R k31 31 W2 base ok (.slice (some ⟨g, 0, none⟩) m c) (l.eraseIdx i) ∧ w.grownBy W2 (some g)) := zA (by
  rw [a6.out]
  exact ⟨impl_DropFile.R_clear_tail a5.out HCUR.out HCS.out (by omega), impl_DropFile.grown_clear (w := w) ⟨a0.out.os, a0.out.tape, a0.out.output, a0.out.size, a0.out.block⟩ _ _⟩)
 clear a6 HCUR HCS a5 a0
 go_wp2
 all_goals go_ret
 all_goals (refine ⟨by first | (rw [← M.out]; done) | (rw [← M.out]; rfl), ?_, HF.out.2⟩)
 all_goals rw [← M.out]
 all_goals have a3 := HF.out.1
 all_goals first | exact a3 | (rw [‹c = j›] at a3; exact a3)
def impl_DropFile.go (k : Nat) (l0 out : List S31) (i : Int) : Option (List S31 × Bool) :=
 if i < 0 then some (out, false) else if i < (out.length : Int) then (impl_FilesOk.f k (out.eraseIdx i.toNat)).bind fun t => if t = true then some (out.eraseIdx i.toNat, true) else (impl_File_59.f l0).bind fun o2 => some (o2, false) else none
def impl_DropFile.f (k : Nat) (l0 : List S31) (a1 : ByteArray) : Option (List S31 × Bool) := (impl_File_59.f l0).bind fun out => (impl_fileAt.f l0 a1).bind fun i => impl_DropFile.go k l0 out i
set_option maxHeartbeats 4000000 in
set_option maxRecDepth 1000000 in
theorem impl_DropFile.calls (k : Nat) (A0 : Option Addr) (c0 : Nat) (l0 : List S31) (a1 : ByteArray) (r1 : List S31) (r2 : Bool) (w : World) (a5 : Kd.C k31 w A0 l0.length l0) (a6 : l0.length ≤ c0) (hG : GW w) (h : impl_DropFile.f k l0 a1 = some (r1, r2)) :
  Calls Tryd.prog 24 #[.slice A0 l0.length c0, .string a1] w fun e w' => ∃ a7 : Value, e = .returned (.tuple #[a7, .bool r2]) ∧ Kd.R k31 31 w' w.heap.size (fun _ => True) a7 r1 ∧ Below w.heap.size w w' := by
 have HG := zA hG
 have a3 := zA a5
 have a4 := zA a6
 have HB := zA (Below.refl w.heap.size w)
 clear hG a5 a6
 unfold impl_DropFile.f at h
 replace h := Option.bind_eq_some_iff.mp h
 obtain ⟨out, hout, h⟩ := h
 replace h := Option.bind_eq_some_iff.mp h
 obtain ⟨i, hi, h⟩ := h
 have CL := zA hout
 have FA := zA hi
 clear hout hi
 unfold impl_DropFile.go at h
 by_cases h0 : i < 0
 ·rw [if_pos h0] at h
  simp only [Option.some.injEq, Prod.mk.injEq] at h
  obtain ⟨rfl, rfl⟩ := h; have h0' : decide (i < 0) = true := decide_eq_true h0; clear h0
  go_enter Tryd.func24, Tryd.ntmps24
  go_wp2_with (first
   | (go_at_call 59; (with_reducible refine (impl_File_59.calls A0 c0 l0 out _ ?h1 a4.out CL.out).mono ?_); (case h1 => exact Kd.C_below a3.out HB.out); rintro e w2 ⟨v2, rfl, ho, hb⟩; have a0 := zA (below_step HB.out hb); have HO := zA (Kd.R_lower ho (below_size HB.out)); clear HB; have HB := a0; clear a0 hb ho; obtain ⟨Ao, co, eo⟩ := Kd.R_slice HO.out; subst eo)
   | (go_at_call 68; (with_reducible refine (impl_fileAt.calls A0 c0 l0 a1 i _ ?h1 a4.out FA.out).mono ?_); (case h1 => exact Kd.C_below a3.out HB.out); rintro e w3 ⟨rfl, hb⟩; have a0 := zA (below_step HB.out hb); have a2 := zA (Kd.R_below HO.out hb); clear HB HO; have HB := a0; have HO := a2; clear a0 a2 hb))
  go_ret2
  exact ⟨_, rfl, zR HO.out, zB⟩
 rw [if_neg h0] at h
 by_cases h1 : i < (out.length : Int)
 ·rw [if_pos h1] at h; replace h := Option.bind_eq_some_iff.mp h; obtain ⟨t, ht, h⟩ := h; have FO := zA ht; clear ht; obtain ⟨q, rfl⟩ : ∃ q : Nat, i = q := ⟨i.toNat, by omega⟩; rw [Int.toNat_natCast] at FO h
  have hq : q < out.length := by omega
  have h0' : decide ((q : Int) < 0) = false := decide_eq_false h0
  have hlen : out.length < 8796093022208 := by
   have hc := CL.out; unfold impl_File_59.f at hc
   simp only [Option.bind_some, List.length_nil, List.nil_append, Nat.zero_add] at hc
   split at hc
   ·obtain rfl := Option.some.inj hc
    omega
   ·cases hc
  have h2' : wrap64 ((q : Int) + 1) = ((q + 1 : Nat) : Int) := by
   unfold wrap64
   omega
  have HQ := zA hq; have REST := zA h; clear h0 h1 hq h
  go_enter Tryd.func24, Tryd.ntmps24
  go_wp2_with (first
   | (go_at_call 59; (with_reducible refine (impl_File_59.calls A0 c0 l0 out _ ?h1 a4.out CL.out).mono ?_); (case h1 => exact Kd.C_below a3.out HB.out); rintro e w2 ⟨v2, rfl, ho, hb⟩; have a0 := zA (below_step HB.out hb); have HO := zA (Kd.R_lower ho (below_size HB.out)); clear HB; have HB := a0; clear a0 hb ho; obtain ⟨Ao, co, eo⟩ := Kd.R_slice HO.out; subst eo)
   | (go_at_call 68; (with_reducible refine (impl_fileAt.calls A0 c0 l0 a1 q _ ?h1 a4.out FA.out).mono ?_); (case h1 => exact Kd.C_below a3.out HB.out); rintro e w3 ⟨rfl, hb⟩; have a0 := zA (below_step HB.out hb); have a2 := zA (Kd.R_below HO.out hb); clear HB HO; have HB := a0; have HO := a2; clear a0 a2 hb))
  obtain ⟨g, cap, ev, _⟩ := Kd.R_form HO.out (by have := HQ.out; omega); injection ev with ea _ ec; subst ea; subst ec
  have ej : ((q : Int) + 1) = ((q + 1 : Nat) : Int) := by omega
  rw [ej]
  refine (impl_DropFile.delete g out.length co q (q + 1) out w.heap.size (fun _ => True) _ HO.out HQ.out rfl (below_size HB.out)).mono ?_
  rintro e w4 ⟨rfl, ho, hg⟩
  have a0 := zA (HB.out.grown hg (below_size HB.out) (fun k hk => by injection hk with hk; subst hk; exact Kd.R_base HO.out _ (by simp [Value.ownBlock]))); have hE := (Kd.R_reads' ho).1; rw [hE] at ho ⊢; clear HB HO hg ej hE; have HB := a0; have HO := zA ho; clear a0 ho; have H := REST.out; clear REST
  by_cases ht : t = true
  ·subst ht; rw [if_pos rfl] at H; simp only [zU] at H; obtain ⟨rfl, rfl⟩ := H
   go_wp2_with (fail)
   refine (impl_FilesOk.calls k _ _ (out.eraseIdx q) true _ ?h1 ?h2 ?h3 FO.out).mono ?_
   case h1 => exact (Kd.R_reads' HO.out).2.2
   case h2 => exact (Kd.R_reads' HO.out).2.1
   case h3 => exact GW.below HG.out HB.out
   rintro e w5 ⟨rfl, hb⟩
   have a0 := zA (below_step HB.out hb); have a2 := zA (Kd.R_below HO.out hb); clear HB HO; have HB := a0; have HO := a2; clear a0 a2 hb
   go_wp2
   go_ret2
   exact ⟨_, rfl, zR HO.out, zB⟩
  obtain rfl : t = false := by cases t <;> simp_all
  rw [if_neg (by simp)] at H; replace H := Option.bind_eq_some_iff.mp H; obtain ⟨o2, a8, H⟩ := H; simp only [zU] at H; obtain ⟨rfl, rfl⟩ := H; have C2 := zA a8; clear a8 ht
  go_wp2_with (first
   | (go_at_call 30; (with_reducible refine (impl_FilesOk.calls k _ _ (out.eraseIdx q) false _ ?h1 ?h2 ?h3 FO.out).mono ?_); (case h1 => exact (Kd.R_reads' HO.out).2.2); (case h2 => exact (Kd.R_reads' HO.out).2.1); (case h3 => exact GW.below HG.out HB.out); rintro e w5 ⟨rfl, hb⟩; have a0 := zA (below_step HB.out hb); clear HB HO; have HB := a0; clear a0 hb)
   | (go_at_call 59; (with_reducible refine (impl_File_59.calls A0 c0 l0 o2 _ ?h1 a4.out C2.out).mono ?_); (case h1 => exact Kd.C_below a3.out HB.out); rintro e w6 ⟨v2, rfl, ho, hb⟩; have a0 := zA (below_step HB.out hb); have HO := zA (Kd.R_lower ho (below_size HB.out)); clear HB; have HB := a0; clear a0 hb ho))
  go_ret2
  exact ⟨_, rfl, zR HO.out, zB⟩
 rw [if_neg h1] at h
 cases h
/-! ### spec_DropFile: function 25 -/
def spec_DropFile.f (k : Nat) (l0 : List (S31)) (a1 : ByteArray) : Option ((List (S31)) × Bool) := (some (([] : List (S31)) : List (S31))).bind fun a2 => (if a2.length + l0.length < 4398046511104 then ((spec_l5At.f k l0 a1).bind fun a0 => (if a0 < 0 then (some ((a2 ++ l0), false)) else ((some (([] : List (S31)) : List (S31))).bind fun a3 => (if 0 ≤ a0 then (if a0 ≤ (l0.length : Int) then ((some (l0.take (a0 : Int).toNat : List (S31))).bind fun a4 => (if a3.length + a4.length < 4398046511104 then ((some (a3 ++ a4 : List (S31))).bind fun a5 => (if 0 ≤ (wrap64 (a0 + 1)) then (if (wrap64 (a0 + 1)) ≤ (l0.length : Int) then ((some (l0.drop ((wrap64 (a0 + 1)) : Int).toNat : List (S31))).bind fun a6 => (if a5.length + a6.length < 4398046511104 then ((some (a5 ++ a6 : List (S31))).bind fun a7 => ((spec_FilesOk.f k a7).bind fun a9 => (if a9 = true then (some (a7, true)) else ((some (([] : List (S31)) : List (S31))).bind fun a8 => (if a8.length + l0.length < 4398046511104 then (some ((a8 ++ l0), false)) else (none)))))) else (none))) else (none)) else (none))) else (none))) else (none)) else (none))))) else (none))
def spec_DropFile.T5 : Bool × List (List Nat × List Nat) := (true, [([], []), ([], []), ([], []), ([1, 2], [1, 2]), ([0, 3], [0, 3]), ([], []), ([], []), ([6], [6]), ([5, 7], [5, 7]), ([4, 8, 4], [4, 8]), ([9, 9, 0, 1, 2, 3, 4, 5, 6, 7, 8, 9], [9])])
def spec_DropFile.B5 : List Nat := [0, 0, 0, 6, 15, 0, 0, 64, 224, 511, 1023]
theorem spec_DropFile.tab5 : rtab .any (opsOf Tryd.f25 5) = spec_DropFile.T5 := by kernel_rfl
theorem spec_DropFile.bits5 : waitsOk spec_DropFile.T5.2 spec_DropFile.B5 = true := by kernel_rfl
theorem spec_DropFile.calls (k : Nat) (A0 : Option Addr) (c0 : Nat) (l0 : List (S31)) (a1 : ByteArray) (r1 : List (S31)) (r2 : Bool) (w : World) (h3 : Kd.C k31 w A0 l0.length l0) (h4 : l0.length ≤ c0) (h : spec_DropFile.f k l0 a1 = some (r1, r2)) :
  Calls Tryd.prog 25 #[.slice A0 l0.length c0, .string a1] w fun e w' => ∃ h5 : Value, e = .returned (.tuple #[h5, .bool r2]) ∧ Kd.R k31 31 w' w.heap.size (fun _ => True) h5 r1 ∧ Below w.heap.size w w' := by
 have b2 := zA h3
 have b5 := zA h4
 clear h3 h4
 have HB := zA (Below.refl w.heap.size w)
 unfold spec_DropFile.f at h
 have H := h
 clear h
 obtain ⟨b7, e5⟩ : ∃ y_ : List (S31), y_ = (([] : List (S31))) := ⟨_, rfl⟩
 replace H : (if b7.length + l0.length < 4398046511104 then ((spec_l5At.f k l0 a1).bind fun a0 => (if a0 < 0 then (some ((b7 ++ l0), false)) else ((some (([] : List (S31)) : List (S31))).bind fun b1 => (if 0 ≤ a0 then (if a0 ≤ (l0.length : Int) then ((some (l0.take (a0 : Int).toNat : List (S31))).bind fun a8 => (if b1.length + a8.length < 4398046511104 then ((some (b1 ++ a8 : List (S31))).bind fun a7 => (if 0 ≤ (wrap64 (a0 + 1)) then (if (wrap64 (a0 + 1)) ≤ (l0.length : Int) then ((some (l0.drop ((wrap64 (a0 + 1)) : Int).toNat : List (S31))).bind fun a3 => (if a7.length + a3.length < 4398046511104 then ((some (a7 ++ a3 : List (S31))).bind fun a4 => ((spec_FilesOk.f k a4).bind fun b0 => (if b0 = true then (some (a4, true)) else ((some (([] : List (S31)) : List (S31))).bind fun a5 => (if a5.length + l0.length < 4398046511104 then (some ((a5 ++ l0), false)) else (none)))))) else (none))) else (none)) else (none))) else (none))) else (none)) else (none))))) else (none)) = some (r1, r2) := zY e5 H
 have b8 := zA e5
 clear e5
 replace H := zC0 H
 obtain ⟨c3, H⟩ := H
 have e6 := zA c3
 clear c3
 obtain ⟨j8, e7⟩ : ∃ y_ : List (S31), y_ = (b7 ++ l0) := ⟨_, rfl⟩
 replace H : ((spec_l5At.f k l0 a1).bind fun a0 => (if a0 < 0 then (some (j8, false)) else ((some (([] : List (S31)) : List (S31))).bind fun b1 => (if 0 ≤ a0 then (if a0 ≤ (l0.length : Int) then ((some (l0.take (a0 : Int).toNat : List (S31))).bind fun a8 => (if b1.length + a8.length < 4398046511104 then ((some (b1 ++ a8 : List (S31))).bind fun a7 => (if 0 ≤ (wrap64 (a0 + 1)) then (if (wrap64 (a0 + 1)) ≤ (l0.length : Int) then ((some (l0.drop ((wrap64 (a0 + 1)) : Int).toNat : List (S31))).bind fun a3 => (if a7.length + a3.length < 4398046511104 then ((some (a7 ++ a3 : List (S31))).bind fun a4 => ((spec_FilesOk.f k a4).bind fun b0 => (if b0 = true then (some (a4, true)) else ((some (([] : List (S31)) : List (S31))).bind fun a5 => (if a5.length + l0.length < 4398046511104 then (some ((a5 ++ l0), false)) else (none)))))) else (none))) else (none)) else (none))) else (none))) else (none)) else (none))))) = some (r1, r2) := zY e7 H
 have e8 := zA e7
 clear e7
 replace H := Option.bind_eq_some_iff.mp H
 obtain ⟨a0, h6, H⟩ := H
 try dsimp only at H
 have A4 := zA h6
 clear h6
 replace H := zI0 H
 rcases H with ⟨j9, H⟩ | ⟨j9, H⟩
 ·simp only [zU] at H; obtain ⟨rfl, rfl⟩ := H
  go_enter Tryd.func25, Tryd.ntmps25
  go_wp2_with (first | ((with_reducible refine gate_dst (N := 8) rfl ?_); refine Kd.R_lit k31 _ 31 ?hg (N := 8) ?hd (xs := ([] : List (S31))) (inner := []) (ok := fun _ => True) ?hr ?hp (fun _ hk => hk) trivial (Below.refl _ _) (Nat.le_refl _) (by simp) ?_; (case hd => rfl); (case hg => rfl); (case hr => first | (go_simp; done) | (go_simp; rfl)); (case hp => exact (Reps.none _ _)); intro c5 w6 c6 hb hg_ hnew_; clear hg_ hnew_; (first | rw [← b8.out] at c6 | (simp only [Int.reduceToNat] at c6; rw [← b8.out] at c6)); have b3 := zA (Kd.R_lower c6 (below_size (zB))); replace HB := zA (below_step (zB) hb); clear hb c6) | ((with_reducible refine gate_builtin (b := .append) (xs := #[.tmp 8, .tmp 9]) rfl ?_); at_builtin; refine Kd.R_append_rows k31 (w0 := w) w.heap.size rfl (.tmp 8) (.tmp 9) 27 31 (.agg #[(.string ⟨#[]⟩), (.string ⟨#[]⟩)]) 32 rfl Tryd.underlying27 info31 rfl (by decide) (by omega) c5 b7 l0 _ _ _ (fun _ => True) (fun _ => False) rfl rfl ?aO ?aR (fun _ _ h => h) (fun _ h => h.elim) ?aF ?aB ?aS ?aL ?_; (case aR => repeat (first | exact (Kd.C_below b2.out HB.out) | (with_reducible refine Kd.C_alloc ?_ _) | (with_reducible refine Kd.C_drewN ?_ _) | (with_reducible refine Kd.C_drew ?_))); (case aB => exact (zB)); (case aF => exact (fun _ _ => trivial)); (case aO => exact (zR b3.out)); (case aS => exact (below_size (zB))); (case aL => have := e6.out; omega); intro b4 w8 ho hb hg hat; rw [← e8.out] at ho; replace HB := zA (hb); have a2 := zA (ho); clear b3; clear ho hb hg hat) | ((with_reducible refine zq 69 ?_); refine zg (some 13) Tryd.func69 #[.slice A0 l0.length c0, .string a1] ?_; (with_reducible refine (spec_l5At.calls k _ _ l0 a1 a0 _ ?s1 ?s2 A4.out).mono ?_); (case s1 => exact zC (Kd.C_below b2.out HB.out)); (case s2 => exact b5.out); rintro e w' ⟨rfl, ⟨nd, rfl⟩⟩; refine ⟨_, rfl, ?_⟩))
  go_ret2
  exact ⟨_, zE, zR a2.out, zB⟩
 obtain ⟨b1, e9⟩ : ∃ y_ : List (S31), y_ = (([] : List (S31))) := ⟨_, rfl⟩
 replace H : (if 0 ≤ a0 then (if a0 ≤ (l0.length : Int) then ((some (l0.take (a0 : Int).toNat : List (S31))).bind fun a8 => (if b1.length + a8.length < 4398046511104 then ((some (b1 ++ a8 : List (S31))).bind fun a7 => (if 0 ≤ (wrap64 (a0 + 1)) then (if (wrap64 (a0 + 1)) ≤ (l0.length : Int) then ((some (l0.drop ((wrap64 (a0 + 1)) : Int).toNat : List (S31))).bind fun a3 => (if a7.length + a3.length < 4398046511104 then ((some (a7 ++ a3 : List (S31))).bind fun a4 => ((spec_FilesOk.f k a4).bind fun b0 => (if b0 = true then (some (a4, true)) else ((some (([] : List (S31)) : List (S31))).bind fun a5 => (if a5.length + l0.length < 4398046511104 then (some ((a5 ++ l0), false)) else (none)))))) else (none))) else (none)) else (none))) else (none))) else (none)) else (none)) = some (r1, r2) := zY e9 H
 have d6 := zA e9
 clear e9
 replace H := zC0 H
 obtain ⟨c9, H⟩ := H
 have m5 := eq_true c9
 have m6 := decide_eq_true c9
 clear c9
 replace H := zC0 H
 obtain ⟨f0, H⟩ := H
 have m7 := eq_true f0
 have m8 := decide_eq_true f0
 clear f0
 obtain ⟨a8, f1⟩ : ∃ y_ : List (S31), y_ = (l0.take (a0 : Int).toNat) := ⟨_, rfl⟩
 replace H : (if b1.length + a8.length < 4398046511104 then ((some (b1 ++ a8 : List (S31))).bind fun a7 => (if 0 ≤ (wrap64 (a0 + 1)) then (if (wrap64 (a0 + 1)) ≤ (l0.length : Int) then ((some (l0.drop ((wrap64 (a0 + 1)) : Int).toNat : List (S31))).bind fun a3 => (if a7.length + a3.length < 4398046511104 then ((some (a7 ++ a3 : List (S31))).bind fun a4 => ((spec_FilesOk.f k a4).bind fun b0 => (if b0 = true then (some (a4, true)) else ((some (([] : List (S31)) : List (S31))).bind fun a5 => (if a5.length + l0.length < 4398046511104 then (some ((a5 ++ l0), false)) else (none)))))) else (none))) else (none)) else (none))) else (none)) = some (r1, r2) := zY f1 H
 have d7 := zA f1
 clear f1
 replace H := zC0 H
 obtain ⟨h7, H⟩ := H
 have h8 := zA h7
 clear h7
 obtain ⟨a7, f2⟩ : ∃ y_ : List (S31), y_ = (b1 ++ a8) := ⟨_, rfl⟩
 replace H : (if 0 ≤ (wrap64 (a0 + 1)) then (if (wrap64 (a0 + 1)) ≤ (l0.length : Int) then ((some (l0.drop ((wrap64 (a0 + 1)) : Int).toNat : List (S31))).bind fun a3 => (if a7.length + a3.length < 4398046511104 then ((some (a7 ++ a3 : List (S31))).bind fun a4 => ((spec_FilesOk.f k a4).bind fun b0 => (if b0 = true then (some (a4, true)) else ((some (([] : List (S31)) : List (S31))).bind fun a5 => (if a5.length + l0.length < 4398046511104 then (some ((a5 ++ l0), false)) else (none)))))) else (none))) else (none)) else (none)) = some (r1, r2) := zY f2 H
 have h9 := zA f2
 clear f2
 obtain ⟨a6, b9⟩ : ∃ j_ : Int, (wrap64 (a0 + 1)) = j_ := ⟨_, rfl⟩
 replace H : (if 0 ≤ (a6) then (if (a6) ≤ (l0.length : Int) then ((some (l0.drop ((a6) : Int).toNat : List (S31))).bind fun a3 => (if a7.length + a3.length < 4398046511104 then ((some (a7 ++ a3 : List (S31))).bind fun a4 => ((spec_FilesOk.f k a4).bind fun b0 => (if b0 = true then (some (a4, true)) else ((some (([] : List (S31)) : List (S31))).bind fun a5 => (if a5.length + l0.length < 4398046511104 then (some ((a5 ++ l0), false)) else (none)))))) else (none))) else (none)) else (none)) = some (r1, r2) := by first | (rw [b9] at H; exact H) | (simp only [b9] at H ⊢; exact H)
 (try rw [b9] at A4)
 have hji12w : (IntKind.i64.wrap (a0 + 1)) = a6 := (i64_w _).trans b9
 replace H := zC0 H
 obtain ⟨f3, H⟩ := H
 have m9 := eq_true f3
 have n0 := decide_eq_true f3
 clear f3
 replace H := zC0 H
 obtain ⟨f4, H⟩ := H
 have n1 := eq_true f4
 have n2 := decide_eq_true f4
 clear f4
 obtain ⟨a3, f5⟩ : ∃ y_ : List (S31), y_ = (l0.drop ((a6) : Int).toNat) := ⟨_, rfl⟩
 replace H : (if a7.length + a3.length < 4398046511104 then ((some (a7 ++ a3 : List (S31))).bind fun a4 => ((spec_FilesOk.f k a4).bind fun b0 => (if b0 = true then (some (a4, true)) else ((some (([] : List (S31)) : List (S31))).bind fun a5 => (if a5.length + l0.length < 4398046511104 then (some ((a5 ++ l0), false)) else (none)))))) else (none)) = some (r1, r2) := zY f5 H
 have d8 := zA f5
 clear f5
 replace H := zC0 H
 obtain ⟨i0, H⟩ := H
 have i1 := zA i0
 clear i0
 obtain ⟨a4, f6⟩ : ∃ y_ : List (S31), y_ = (a7 ++ a3) := ⟨_, rfl⟩
 replace H : ((spec_FilesOk.f k a4).bind fun b0 => (if b0 = true then (some (a4, true)) else ((some (([] : List (S31)) : List (S31))).bind fun a5 => (if a5.length + l0.length < 4398046511104 then (some ((a5 ++ l0), false)) else (none))))) = some (r1, r2) := zY f6 H
 have i2 := zA f6
 clear f6
 replace H := Option.bind_eq_some_iff.mp H
 obtain ⟨b0, i3, H⟩ := H
 try dsimp only at H
 have i4 := zA i3
 clear i3
 replace H := zB0 H
 rcases H with ⟨rfl, H⟩ | ⟨rfl, H⟩
 ·simp only [zU] at H; obtain ⟨rfl, rfl⟩ := H
  go_enter Tryd.func25, Tryd.ntmps25
  try go_wp2_with (first | ((with_reducible refine gate_dst (N := 8) rfl ?_); refine Kd.R_lit k31 _ 31 ?hg (N := 8) ?hd (xs := ([] : List (S31))) (inner := []) (ok := fun _ => True) ?hr ?hp (fun _ hk => hk) trivial (Below.refl _ _) (Nat.le_refl _) (by simp) ?_; (case hd => rfl); (case hg => rfl); (case hr => first | (go_simp; done) | (go_simp; rfl)); (case hp => exact (Reps.none _ _)); intro c5 n3 c7 hb hg_ hnew_; clear hg_ hnew_; (first | rw [← b8.out] at c7 | (simp only [Int.reduceToNat] at c7; rw [← b8.out] at c7)); have b3 := zA (Kd.R_lower c7 (below_size (zB))); replace HB := zA (below_step (zB) hb); clear hb c7) | ((with_reducible refine gate_builtin (b := .append) (xs := #[.tmp 8, .tmp 9]) rfl ?_); at_builtin; refine Kd.R_append_rows k31 (w0 := w) w.heap.size rfl (.tmp 8) (.tmp 9) 27 31 (.agg #[(.string ⟨#[]⟩), (.string ⟨#[]⟩)]) 32 rfl Tryd.underlying27 info31 rfl (by decide) (by omega) c5 b7 l0 _ _ _ (fun _ => True) (fun _ => False) rfl rfl ?aO ?aR (fun _ _ h => h) (fun _ h => h.elim) ?aF ?aB ?aS ?aL ?_; (case aR => repeat (first | exact (Kd.C_below b2.out HB.out) | (with_reducible refine Kd.C_alloc ?_ _) | (with_reducible refine Kd.C_drewN ?_ _) | (with_reducible refine Kd.C_drew ?_))); (case aB => exact (zB)); (case aF => exact (fun _ _ => trivial)); (case aO => exact (zR b3.out)); (case aS => exact (below_size (zB))); (case aL => have := e6.out; omega); intro b4 d9 ho hb hg hat; rw [← e8.out] at ho; replace HB := zA (hb); have a2 := zA (ho); clear b3; clear ho hb hg hat) | ((with_reducible refine zq 69 ?_); refine zg (some 13) Tryd.func69 #[.slice A0 l0.length c0, .string a1] ?_; (with_reducible refine (spec_l5At.calls k _ _ l0 a1 a0 _ ?s1 ?s2 A4.out).mono ?_); (case s1 => exact zC (Kd.C_below b2.out HB.out)); (case s2 => exact b5.out); rintro e w' ⟨rfl, ⟨nd, rfl⟩⟩; refine ⟨_, rfl, ?_⟩))
  (try (rw [drewN_self d9]; generalize hq_ : World.drewN d9 _ = d9; replace a2 := zA (zh4 hq_.symm (zR a2.out)); replace HB := zA (zh2 hq_.symm (zB)); clear hq_))
  replace a2 := zA (Kd.R_drew a2.out); replace HB := zA (below_drew1 HB.out); have f7 : (a0 : Int) ≤ ((l0.length : Int) : Int) := zD; obtain ⟨n4, i5, _, k0, _⟩ := info_parts info31; have hroom22 : l0.length ≤ c0 := b5.out; have i6 : Kd.C k31 _ A0 l0.length l0 := b2.out; have k1 := cut_to (P := Tryd.prog) 27 31 .i64 Tryd.underlying27 i5 A0 l0.length c0 a0 (zD) f7 hroom22; have f8 := Kd.C_take (m := (a0 : Int).toNat) i6 (by omega); have f9 : a8.length = (a0 : Int).toNat := (by rw [d7.out, List.length_take]; omega); rw [← d7.out] at f8; rw [← f9] at k1; have c8 := zA f8; have k2 := zA (show a8.length ≤ c0 from by omega); clear f8 i6 hroom22 i5 k0; have n5 := zA f9; clear f9; replace f7 := eq_true f7; have g0 : ((a6) : Int) ≤ ((l0.length : Int) : Int) := zD; obtain ⟨n6, i7, _, i8, _⟩ := info_parts info31; have hroom23 : l0.length ≤ c0 := b5.out; have i9 : Kd.C k31 _ A0 l0.length l0 := b2.out; have k3 : (0 : Int) ≤ ((a6) : Int) := zD; have k4 := cut_from (P := Tryd.prog) 27 31 .i64 Tryd.underlying27 i7 2 i8 A0 l0.length c0 (a6) k3 g0; have d0 := Kd.C_drop (m := ((a6) : Int).toNat) (c := c0) i9 (by omega) hroom23; obtain ⟨k5, e0⟩ : ∃ A1, A1 = (if c0 = ((a6) : Int).toNat then A0 else (A0 : Option Addr).map (·.add (((a6) : Int).toNat * 2))) := ⟨_, rfl⟩; obtain ⟨k6, g1⟩ : ∃ c1, c1 = c0 - ((a6) : Int).toNat := ⟨_, rfl⟩; have e1 : a3.length = l0.length - ((a6) : Int).toNat := (by rw [d8.out, List.length_drop] <;> omega); rw [show (l0).drop ((a6) : Int).toNat = a3 from d8.out.symm] at d0; replace d0 : Kd.C k31 _ k5 a3.length a3 := (by rw [e0]; exact d0); rw [← e1, ← e0, ← g1] at k4; have d1 := zA d0; have k7 := zA (show a3.length ≤ k6 from by rw [e1, g1]; exact Nat.sub_le_sub_right hroom23 _); clear d0 i9 hroom23 i7 i8 g1; have n7 := zA e1; have n8 := zA e0; clear e1 e0; replace g0 := eq_true g0
  refine start_ (n := 11) (S := fun w' => True) (ds := []) (Array.replicate 11 false) (by kernel_rfl) rfl rfl trivial (fun hHeld => ?_); refine with_tabW spec_DropFile.tab5 spec_DropFile.bits5 (fun HT_ HW_ => ?_)
  generalize d9.drew = n9 at a2 HB c8 d1 hHeld ⊢; refine zp 1 18 ?_; refine zp 2 19 ?_; refine zp 3 20 ?_; refine zp 5 22 ?_; refine zp 6 23 ?_; refine zp 7 24 ?_; refine zp 8 25 ?_
  refine zo 0 (some 17) fun K hK => ?_
  refine Kd.R_lit_step k31 _ 31 ?hg (N := 17) ?hd (xs := ([] : List (S31))) (inner := []) (ok := fun _ => True) ?hr ?hp (fun _ hk => hk) trivial (Below.refl _ _) (Nat.le_refl _) (by simp) ?_; (case hd => rfl); (case hg => rfl); (case hr => first | (go_simp; done) | (go_simp; rfl)); (case hp => exact (Reps.none _ _))
  intro g2 o0 c2 hb hg_ hnew_
  clear hg_ hnew_
  (first | rw [← d6.out] at c2 | (simp only [Int.reduceToNat] at c2; rw [← d6.out] at c2))
  have d2 := zA (Kd.R_lower (Kd.R_new' c2 (Kd.R_lt (zR a2.out))) (below_size (zB))); replace a2 := zA (Kd.R_elder' (zR a2.out) (Kd.R_base c2) hb); replace HB := zA (below_step (zB) hb); clear hb c2
  refine hK.out _ _ trivial (fun hHeld => ?_)
  clear hK K; refine zn ?_
  refine zo 4 (some 21) fun K hK => ?_
  refine Kd.R_append_rows_step k31 (w0 := w) w.heap.size (by rfl) (.tmp 17) (.tmp 20) 27 31 (.agg #[(.string ⟨#[]⟩), (.string ⟨#[]⟩)]) 32 rfl Tryd.underlying27 info31 rfl (by decide) (by omega) g2 b1 a8 _ _ _ (fun k_ => some k_ ≠ (b4 : Value).ownBlock) (fun _ => False) rfl rfl ?aO ?aR (fun _ _ h => h) (fun _ h => h.elim) ?aF ?aB ?aS ?aL ?_
  (case aR => repeat (first | exact (Kd.C_below c8.out HB.out) | (with_reducible refine Kd.C_alloc ?_ _) | (with_reducible refine Kd.C_drewN ?_ _) | (with_reducible refine Kd.C_drew ?_)))
  (case aB => exact (zB))
  (case aF => exact (fun k_ hk => Kd.fresh' (Kd.R_lt (zR a2.out)) k_ hk))
  (case aO => exact (zR (Kd.R_mono d2.out (fun _ hk => hk.2))))
  (case aS => exact (below_size (zB)))
  (case aL => have := h8.out; omega)
  intro g3 o1 ho hb hg hat
  rw [← h9.out] at ho; replace a2 := zA (Kd.R_after (ok := (fun _ => True)) (zR a2.out) hg hat); replace HB := zA (hb); have d3 := zA (ho); clear d2; clear ho hb hg hat
  refine hK.out _ _ trivial (fun hHeld => ?_)
  clear hK K; refine zn ?_
  refine zo 9 (some 26) fun K hK => ?_
  refine Kd.R_append_rows_step k31 (w0 := w) w.heap.size (by rfl) (.tmp 21) (.tmp 25) 27 31 (.agg #[(.string ⟨#[]⟩), (.string ⟨#[]⟩)]) 32 rfl Tryd.underlying27 info31 rfl (by decide) (by omega) g3 a7 a3 _ _ _ (fun k_ => some k_ ≠ (b4 : Value).ownBlock) (fun _ => False) rfl rfl ?aO ?aR (fun _ _ h => h) (fun _ h => h.elim) ?aF ?aB ?aS ?aL ?_
  (case aR => repeat (first | exact (Kd.C_below d1.out HB.out) | (with_reducible refine Kd.C_alloc ?_ _) | (with_reducible refine Kd.C_drewN ?_ _) | (with_reducible refine Kd.C_drew ?_)))
  (case aB => exact (zB))
  (case aF => exact (fun k_ hk => Kd.fresh' (Kd.R_lt (zR a2.out)) k_ hk))
  (case aO => exact (zR d3.out))
  (case aS => exact (below_size (zB)))
  (case aL => have := i1.out; omega)
  intro k8 o2 ho hb hg hat
  rw [← i2.out] at ho; replace a2 := zA (Kd.R_after (ok := (fun _ => True)) (zR a2.out) hg hat); replace HB := zA (hb); have a9 := zA (ho); clear d3; clear ho hb hg hat
  refine hK.out _ _ trivial (fun hHeld => ?_)
  clear hK K; refine zn ?_; refine zp 10 6 ?_
  refine done_ (done_of HT_.out (by kernel_rfl)) ?_
  obtain ⟨k9, l1, l2⟩ := Kd.R_slice a9.out; subst l2
  try go_wp2_with (first | ((with_reducible refine zq 31 ?_); refine zg (some 28) Tryd.func31 #[.slice k9 a4.length l1] ?_; (with_reducible refine (spec_FilesOk.calls k _ _ a4 true _ ?s1 ?s2 i4.out).mono ?_); (case s1 => repeat (first | exact (Kd.R_reads' a9.out).2.2 | (with_reducible refine Kd.C_alloc ?_ _) | (with_reducible refine Kd.C_drewN ?_ _) | (with_reducible refine Kd.C_drew ?_))); (case s2 => exact (Kd.R_reads' a9.out).2.1); rintro e o3 ⟨rfl, hb⟩; refine ⟨_, rfl, ?_⟩; replace a2 := zr a2 hb; replace a9 := zr a9 hb; replace HB := zA (below_step (zB) hb); (try clear hb)))
  go_ret2
  exact ⟨_, by first | rfl | (simp [errW_none, errW_some] <;> rfl) | (simp only [← b9]; first | rfl | (simp [errW_none, errW_some] <;> rfl)) | (simp [*, errW_none, errW_some] <;> rfl), zR (Kd.R_mono a9.out (fun _ hk => trivial)), zB⟩
 obtain ⟨a5, g4⟩ : ∃ y_ : List (S31), y_ = (([] : List (S31))) := ⟨_, rfl⟩
 replace H : (if a5.length + l0.length < 4398046511104 then (some ((a5 ++ l0), false)) else (none)) = some (r1, r2) := zY g4 H
 have j0 := zA g4
 clear g4
 replace H := zC0 H
 obtain ⟨j1, H⟩ := H
 have l3 := zA j1
 clear j1
 obtain ⟨l4, g5⟩ : ∃ y_ : List (S31), y_ = (a5 ++ l0) := ⟨_, rfl⟩
 replace H : (some (l4, false)) = some (r1, r2) := zY g5 H
 have l5 := zA g5
 clear g5
 simp only [zU] at H
 obtain ⟨rfl, rfl⟩ := H
 go_enter Tryd.func25, Tryd.ntmps25
 try go_wp2_with (first | ((with_reducible refine gate_dst (N := 8) rfl ?_); refine Kd.R_lit k31 _ 31 ?hg (N := 8) ?hd (xs := ([] : List (S31))) (inner := []) (ok := fun _ => True) ?hr ?hp (fun _ hk => hk) trivial (Below.refl _ _) (Nat.le_refl _) (by simp) ?_; (case hd => rfl); (case hg => rfl); (case hr => first | (go_simp; done) | (go_simp; rfl)); (case hp => exact (Reps.none _ _)); intro c5 o4 d4 hb hg_ hnew_; clear hg_ hnew_; (first | rw [← b8.out] at d4 | (simp only [Int.reduceToNat] at d4; rw [← b8.out] at d4)); have b3 := zA (Kd.R_lower d4 (below_size (zB))); replace HB := zA (below_step (zB) hb); clear hb d4) | ((with_reducible refine gate_builtin (b := .append) (xs := #[.tmp 8, .tmp 9]) rfl ?_); at_builtin; refine Kd.R_append_rows k31 (w0 := w) w.heap.size rfl (.tmp 8) (.tmp 9) 27 31 (.agg #[(.string ⟨#[]⟩), (.string ⟨#[]⟩)]) 32 rfl Tryd.underlying27 info31 rfl (by decide) (by omega) c5 b7 l0 _ _ _ (fun _ => True) (fun _ => False) rfl rfl ?aO ?aR (fun _ _ h => h) (fun _ h => h.elim) ?aF ?aB ?aS ?aL ?_; (case aR => repeat (first | exact (Kd.C_below b2.out HB.out) | (with_reducible refine Kd.C_alloc ?_ _) | (with_reducible refine Kd.C_drewN ?_ _) | (with_reducible refine Kd.C_drew ?_))); (case aB => exact (zB)); (case aF => exact (fun _ _ => trivial)); (case aO => exact (zR b3.out)); (case aS => exact (below_size (zB))); (case aL => have := e6.out; omega); intro b4 e2 ho hb hg hat; rw [← e8.out] at ho; replace HB := zA (hb); have a2 := zA (ho); clear b3; clear ho hb hg hat) | ((with_reducible refine zq 69 ?_); refine zg (some 13) Tryd.func69 #[.slice A0 l0.length c0, .string a1] ?_; (with_reducible refine (spec_l5At.calls k _ _ l0 a1 a0 _ ?s1 ?s2 A4.out).mono ?_); (case s1 => exact zC (Kd.C_below b2.out HB.out)); (case s2 => exact b5.out); rintro e w' ⟨rfl, ⟨nd, rfl⟩⟩; refine ⟨_, rfl, ?_⟩))
 (try (rw [drewN_self e2]; generalize hq_ : World.drewN e2 _ = e2; replace a2 := zA (zh4 hq_.symm (zR a2.out)); replace HB := zA (zh2 hq_.symm (zB)); clear hq_))
 replace a2 := zA (Kd.R_drew a2.out)
 replace HB := zA (below_drew1 HB.out)
 have g6 : (a0 : Int) ≤ ((l0.length : Int) : Int) := zD
 obtain ⟨o5, j2, _, l6, _⟩ := info_parts info31
 have hroom35 : l0.length ≤ c0 := b5.out
 have j3 : Kd.C k31 _ A0 l0.length l0 := b2.out
 have l7 := cut_to (P := Tryd.prog) 27 31 .i64 Tryd.underlying27 j2 A0 l0.length c0 a0 (zD) g6 hroom35
 have g7 := Kd.C_take (m := (a0 : Int).toNat) j3 (by omega)
 have g8 : a8.length = (a0 : Int).toNat := (by rw [d7.out, List.length_take]; omega)
 rw [← d7.out] at g7
 rw [← g8] at l7
 have c8 := zA g7
 have k2 := zA (show a8.length ≤ c0 from by omega)
 clear g7 j3 hroom35 j2 l6
 have o6 := zA g8
 clear g8
 replace g6 := eq_true g6
 have g9 : ((a6) : Int) ≤ ((l0.length : Int) : Int) := zD
 obtain ⟨o7, j4, _, j5, _⟩ := info_parts info31
 have hroom36 : l0.length ≤ c0 := b5.out
 have j6 : Kd.C k31 _ A0 l0.length l0 := b2.out
 have l8 : (0 : Int) ≤ ((a6) : Int) := zD
 have l9 := cut_from (P := Tryd.prog) 27 31 .i64 Tryd.underlying27 j4 2 j5 A0 l0.length c0 (a6) l8 g9
 have d5 := Kd.C_drop (m := ((a6) : Int).toNat) (c := c0) j6 (by omega) hroom36
 obtain ⟨m0, e3⟩ : ∃ A1, A1 = (if c0 = ((a6) : Int).toNat then A0 else (A0 : Option Addr).map (·.add (((a6) : Int).toNat * 2))) := ⟨_, rfl⟩
 obtain ⟨m1, h0⟩ : ∃ c1, c1 = c0 - ((a6) : Int).toNat := ⟨_, rfl⟩
 have e4 : a3.length = l0.length - ((a6) : Int).toNat := (by rw [d8.out, List.length_drop] <;> omega)
 rw [show (l0).drop ((a6) : Int).toNat = a3 from d8.out.symm] at d5
 replace d5 : Kd.C k31 _ m0 a3.length a3 := (by rw [e3]; exact d5)
 rw [← e4, ← e3, ← h0] at l9
 have d1 := zA d5
 have k7 := zA (show a3.length ≤ m1 from by rw [e4, h0]; exact Nat.sub_le_sub_right hroom36 _)
 clear d5 j6 hroom36 j4 j5 h0
 have o8 := zA e4
 have o9 := zA e3
 clear e4 e3
 replace g9 := eq_true g9
 refine start_ (n := 11) (S := fun w' => True) (ds := []) (Array.replicate 11 false) (by kernel_rfl) rfl rfl trivial (fun hHeld => ?_); refine with_tabW spec_DropFile.tab5 spec_DropFile.bits5 (fun HT_ HW_ => ?_)
 generalize e2.drew = p0 at a2 HB c8 d1 hHeld ⊢
 refine zp 1 18 ?_
 refine zp 2 19 ?_
 refine zp 3 20 ?_
 refine zp 5 22 ?_
 refine zp 6 23 ?_
 refine zp 7 24 ?_
 refine zp 8 25 ?_
 refine zo 0 (some 17) fun K hK => ?_
 refine Kd.R_lit_step k31 _ 31 ?hg (N := 17) ?hd (xs := ([] : List (S31))) (inner := []) (ok := fun _ => True) ?hr ?hp (fun _ hk => hk) trivial (Below.refl _ _) (Nat.le_refl _) (by simp) ?_; (case hd => rfl); (case hg => rfl); (case hr => first | (go_simp; done) | (go_simp; rfl)); (case hp => exact (Reps.none _ _))
 intro g2 p1 c4 hb hg_ hnew_
 clear hg_ hnew_
 (first | rw [← d6.out] at c4 | (simp only [Int.reduceToNat] at c4; rw [← d6.out] at c4))
 have d2 := zA (Kd.R_lower (Kd.R_new' c4 (Kd.R_lt (zR a2.out))) (below_size (zB)))
 replace a2 := zA (Kd.R_elder' (zR a2.out) (Kd.R_base c4) hb)
 replace HB := zA (below_step (zB) hb)
 clear hb c4
 refine hK.out _ _ trivial (fun hHeld => ?_)
 clear hK K
 refine zn ?_
 refine zo 4 (some 21) fun K hK => ?_
 refine Kd.R_append_rows_step k31 (w0 := w) w.heap.size (by rfl) (.tmp 17) (.tmp 20) 27 31 (.agg #[(.string ⟨#[]⟩), (.string ⟨#[]⟩)]) 32 rfl Tryd.underlying27 info31 rfl (by decide) (by omega) g2 b1 a8 _ _ _ (fun k_ => some k_ ≠ (b4 : Value).ownBlock) (fun _ => False) rfl rfl ?aO ?aR (fun _ _ h => h) (fun _ h => h.elim) ?aF ?aB ?aS ?aL ?_
 (case aR => repeat (first | exact (Kd.C_below c8.out HB.out) | (with_reducible refine Kd.C_alloc ?_ _) | (with_reducible refine Kd.C_drewN ?_ _) | (with_reducible refine Kd.C_drew ?_)))
 (case aB => exact (zB))
 (case aF => exact (fun k_ hk => Kd.fresh' (Kd.R_lt (zR a2.out)) k_ hk))
 (case aO => exact (zR (Kd.R_mono d2.out (fun _ hk => hk.2))))
 (case aS => exact (below_size (zB)))
 (case aL => have := h8.out; omega)
 intro g3 p2 ho hb hg hat
 rw [← h9.out] at ho
 replace a2 := zA (Kd.R_after (ok := (fun _ => True)) (zR a2.out) hg hat)
 replace HB := zA (hb)
 have d3 := zA (ho)
 clear d2
 clear ho hb hg hat
 refine hK.out _ _ trivial (fun hHeld => ?_)
 clear hK K
 refine zn ?_
 refine zo 9 (some 26) fun K hK => ?_
 refine Kd.R_append_rows_step k31 (w0 := w) w.heap.size (by rfl) (.tmp 21) (.tmp 25) 27 31 (.agg #[(.string ⟨#[]⟩), (.string ⟨#[]⟩)]) 32 rfl Tryd.underlying27 info31 rfl (by decide) (by omega) g3 a7 a3 _ _ _ (fun k_ => some k_ ≠ (b4 : Value).ownBlock) (fun _ => False) rfl rfl ?aO ?aR (fun _ _ h => h) (fun _ h => h.elim) ?aF ?aB ?aS ?aL ?_
 (case aR => repeat (first | exact (Kd.C_below d1.out HB.out) | (with_reducible refine Kd.C_alloc ?_ _) | (with_reducible refine Kd.C_drewN ?_ _) | (with_reducible refine Kd.C_drew ?_)))
 (case aB => exact (zB))
 (case aF => exact (fun k_ hk => Kd.fresh' (Kd.R_lt (zR a2.out)) k_ hk))
 (case aO => exact (zR d3.out))
 (case aS => exact (below_size (zB)))
 (case aL => have := i1.out; omega)
 intro k8 p3 ho hb hg hat
 rw [← i2.out] at ho
 replace a2 := zA (Kd.R_after (ok := (fun _ => True)) (zR a2.out) hg hat)
 replace HB := zA (hb)
 have a9 := zA (ho)
 clear d3
 clear ho hb hg hat
 refine hK.out _ _ trivial (fun hHeld => ?_)
 clear hK K
 refine zn ?_
 refine zp 10 6 ?_
 refine done_ (done_of HT_.out (by kernel_rfl)) ?_
 obtain ⟨h1, h2, m2⟩ := Kd.R_slice a9.out
 subst m2
 try go_wp2_with (first | ((with_reducible refine zq 31 ?_); refine zg (some 28) Tryd.func31 #[.slice h1 a4.length h2] ?_; (with_reducible refine (spec_FilesOk.calls k _ _ a4 false _ ?s1 ?s2 i4.out).mono ?_); (case s1 => repeat (first | exact (Kd.R_reads' a9.out).2.2 | (with_reducible refine Kd.C_alloc ?_ _) | (with_reducible refine Kd.C_drewN ?_ _) | (with_reducible refine Kd.C_drew ?_))); (case s2 => exact (Kd.R_reads' a9.out).2.1); rintro e p4 ⟨rfl, hb⟩; refine ⟨_, rfl, ?_⟩; replace a2 := zr a2 hb; replace a9 := zr a9 hb; replace HB := zA (below_step (zB) hb); (try clear hb)) | ((with_reducible refine gate_dst (N := 30) rfl ?_); refine Kd.R_lit k31 _ 31 ?hg (N := 30) ?hd (xs := ([] : List (S31))) (inner := []) (ok := fun _ => True) ?hr ?hp (fun _ hk => hk) trivial (Below.refl _ _) (Nat.le_refl _) (by simp) ?_; (case hd => rfl); (case hg => rfl); (case hr => first | (go_simp; done) | (go_simp; rfl)); (case hp => exact (Reps.none _ _)); intro m3 p5 b6 hb hg_ hnew_; clear hg_ hnew_; (first | rw [← j0.out] at b6 | (simp only [Int.reduceToNat] at b6; rw [← j0.out] at b6)); have j7 := zA (Kd.R_lower (Kd.R_new' (Kd.R_new' b6 (Kd.R_lt (zR a2.out))) (Kd.R_lt (zR a9.out))) (below_size (zB))); replace a2 := zA (Kd.R_elder' (zR a2.out) (Kd.R_base b6) hb); replace a9 := zA (Kd.R_elder' (zR a9.out) (Kd.R_base b6) hb); replace HB := zA (below_step (zB) hb); clear hb b6) | ((with_reducible refine gate_builtin (b := .append) (xs := #[.tmp 30, .tmp 31]) rfl ?_); at_builtin; refine Kd.R_append_rows k31 (w0 := w) w.heap.size rfl (.tmp 30) (.tmp 31) 27 31 (.agg #[(.string ⟨#[]⟩), (.string ⟨#[]⟩)]) 32 rfl Tryd.underlying27 info31 rfl (by decide) (by omega) m3 a5 l0 _ _ _ (fun k_ => some k_ ≠ (b4 : Value).ownBlock ∧ some k_ ≠ (.slice h1 a4.length h2 : Value).ownBlock) (fun _ => False) rfl rfl ?aO ?aR (fun _ _ h => h) (fun _ h => h.elim) ?aF ?aB ?aS ?aL ?_; (case aR => repeat (first | exact (Kd.C_below b2.out HB.out) | (with_reducible refine Kd.C_alloc ?_ _) | (with_reducible refine Kd.C_drewN ?_ _) | (with_reducible refine Kd.C_drew ?_))); (case aB => exact (zB)); (case aF => exact (fun k_ hk => ⟨Kd.fresh' (Kd.R_lt (zR a2.out)) k_ hk, Kd.fresh' (Kd.R_lt (zR a9.out)) k_ hk⟩)); (case aO => exact (zR (Kd.R_mono j7.out (fun _ hk => ⟨hk.1.2, hk.2⟩)))); (case aS => exact (below_size (zB))); (case aL => have := l3.out; omega); intro p6 p7 ho hb hg hat; rw [← l5.out] at ho; replace a2 := zA (Kd.R_after (ok := (fun k_ => some k_ ≠ (.slice h1 a4.length h2 : Value).ownBlock)) (zR (Kd.R_mono a2.out (fun _ hk => ⟨hk.1.2, hk.2⟩))) hg hat); replace a9 := zA (Kd.R_after (ok := (fun k_ => some k_ ≠ (b4 : Value).ownBlock)) (zR a9.out) hg hat); replace HB := zA (hb); have m4 := zA (ho); clear j7; clear ho hb hg hat))
 go_ret2
 exact ⟨_, by first | rfl | (simp [errW_none, errW_some] <;> rfl) | (simp only [← b9]; first | rfl | (simp [errW_none, errW_some] <;> rfl)) | (simp [*, errW_none, errW_some] <;> rfl), zR (Kd.R_mono m4.out (fun _ hk => trivial)), zB⟩
/-! ### spec_l1Once: function 72 -/
def spec_l1Once.f (k : Nat) (a2 : List Int) (a3 a4 a1 : Int) : Option (Bool × Int × Int) := (spec_l1Below.f k a2 a3 a4 a1).bind fun a0 => (some ((a0.1 == 0), a0.2.1, a0.2.2))
theorem spec_l1Once.calls (k g : Nat) (a2 : List Int) (a3 a4 a1 : Int) (r1 : Bool) (r2 r3 : Int) (w0 w : World) (hI : IsS113 w0 w g a2 a3 a4) (hB : Below w0.heap.size w0 w) (h : spec_l1Once.f k a2 a3 a4 a1 = some (r1, r2, r3)) :
  Calls Tryd.prog 72 #[.pointer (some ⟨g, 0, none⟩), .int .i64 a1] w fun e w' => e = .returned (.bool r1) ∧ IsS113 w0 w' g a2 r2 r3 ∧ Below w0.heap.size w0 w' ∧ KeepBut w w' g none := by
 have a0 := zA hI
 have HK := zA (KeepBut.refl w g none)
 have HL := zA hB.size
 clear hI
 have a9 := zA hB.size
 have HB := zA hB
 clear hB
 unfold spec_l1Once.f at h
 have H := h
 clear h
 replace H := Option.bind_eq_some_iff.mp H
 obtain ⟨⟨a6, a7, a8⟩, a5, H⟩ := H
 try dsimp only at H
 have A3 := zA a5
 clear a5
 simp only [zU] at H
 obtain ⟨rfl, rfl, rfl⟩ := H
 go_enter Tryd.func72, Tryd.ntmps72
 go_wp2_with (first | ((with_reducible refine zq 104 ?_); refine zg (some 7) Tryd.func104 #[.pointer (some ⟨g, 0, none⟩), .int .i64 a1] ?_; (with_reducible refine (spec_l1Below.calls k g a2 a3 a4 a1 a6 a7 a8 w0 _ ?s1 ?s2 A3.out).mono ?_); (case s1 => repeat (first | (with_reducible first | exact a0.out | apply IsS113.alloc | apply IsS113.drewN | apply IsS113.drew | apply IsS113.set_1 | apply IsS113.set_2) | exact a0.out)); (case s2 => repeat (first | (with_reducible first | exact HB.out | apply below_alloc | apply pw_below_drewN | apply below_drew1 | refine below_set ?_ (IsS113.ge a0.out)) | exact HB.out)); rintro e w4 ⟨rfl, hi, hb, hk⟩; refine ⟨_, rfl, ?_⟩; replace HK := zA (KeepBut.trans (zQ HK.out) hk (.inl rfl)); replace HB := zA (hb); replace a0 := zA (hi); (try clear hb hk hi)))
 go_ret
 exact ⟨zE, by repeat (first | (with_reducible first | exact a0.out | apply IsS113.alloc | apply IsS113.drewN | apply IsS113.drew | apply IsS113.set_1 | apply IsS113.set_2) | exact a0.out), zX HB.out (IsS113.ge a0.out), zQ HK.out⟩
end Go.Proofs.YtbaeljcnbkeipaaDoor.PGA
namespace Go.Proofs.YtbaeljcnbkeipaaDoor.PGA
open Go.RowKit YtbaeljcnbkeipaaDoorW.PrintWords YtbaeljcnbkeipaaDoorW.PrintLast YtbaeljcnbkeipaaDoorW.PrintMore
attribute [local go_sem high] Mine.str_gtr Mine.str_leq Mine.str_geq
attribute [local go_sem] max2_int min2_int max_two min_two max_three min_three max_four min_four   -- for this text's walks alone
set_option linter.unusedVariables false
set_option maxHeartbeats 8000000
set_option maxRecDepth 100000
set_option linter.unusedSimpArgs false
theorem eqA31 (d : Nat) (w : World) (x0 y0 x1 y1 : ByteArray) :
  (Op.equalIn (d + 2) 31 (.agg #[.string x0, .string x1]) (.agg #[.string y0, .string y1])).run Tryd.prog w = .ok (x0.toList == y0.toList && (x1.toList == y1.toList)) w := by
 refine eqA_of Tryd.underlying31 (by kernel_rfl) ?_
 refine eqf_cons (by rfl) (by go_simp; rfl) (by go_simp; rfl) (by go_simp) ?_
 exact eqf_last (by rfl) (by go_simp; rfl) (by go_simp; rfl) (by go_simp)
end Go.Proofs.YtbaeljcnbkeipaaDoor.PGA
