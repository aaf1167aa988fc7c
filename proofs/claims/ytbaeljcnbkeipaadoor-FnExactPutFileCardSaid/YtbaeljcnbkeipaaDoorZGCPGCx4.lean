/- The walks of the functions that these laws reach, and what each comes to: printed by this session's program. -/
import Derived.Test.YtbaeljcnbkeipaaDoorZGCPGCx0
import Derived.Test.YtbaeljcnbkeipaaDoorZGCPGCx1
import Derived.Test.YtbaeljcnbkeipaaDoorZGCSays
import Derived.Test.YtbaeljcnbkeipaaDoorZGCRegs
namespace Go.Proofs.YtbaeljcnbkeipaaDoor.PGC
open Go.RowKit YtbaeljcnbkeipaaDoorW.PrintWords YtbaeljcnbkeipaaDoorW.PrintLast YtbaeljcnbkeipaaDoorW.PrintMore
attribute [local go_sem high] Mine.str_gtr Mine.str_leq Mine.str_geq
attribute [local go_sem] max2_int min2_int max_two min_two max_three min_three max_four min_four   -- for this text's walks alone
set_option linter.unusedVariables false
set_option maxHeartbeats 8000000
set_option maxRecDepth 100000
set_option linter.unusedSimpArgs false
/-! ### impl_FilesOk: function 30 -/
def impl_FilesOk.l0 : Nat → List (S31) → List (S31) → Int → Int → Option (Bool)
 | 0, _, _, _, _ => none
 | k + 1, x0, x5, x6, x7 => if x7 < x6 then (if 0 ≤ x7 then (if x7 < (x5.length : Int) then ((impl_PathOk.f k ((rd_T31 x5 x7).f0)).bind fun a0 => (if a0 = true then (if (((rd_T31 x5 x7).f1).size : Int) > 60 then (some false) else (if x7 > 0 then (if 0 ≤ (wrap64 (x7 - 1)) then (if (wrap64 (x7 - 1)) < (x0.length : Int) then (if ((Op.bytesLess (((rd_T31 x0 (wrap64 (x7 - 1))).f0).toList) (((rd_T31 x5 x7).f0).toList)) = true) then (impl_FilesOk.l0 k x0 x5 x6 (wrap64 (x7 + 1))) else (some false)) else (none)) else (none)) else (impl_FilesOk.l0 k x0 x5 x6 (wrap64 (x7 + 1))))) else (some false))) else (none)) else (none)) else (some (decide ((x0.length : Int) ≤ 30)))
def impl_FilesOk.f (k : Nat) (l0 : List (S31)) : Option (Bool) := impl_FilesOk.l0 k l0 l0 (l0.length : Int) 0
def impl_FilesOk.T4 : Bool × List (List Nat × List Nat) := (true, [([], []), ([0], [0]), ([1], [1]), ([2], [2]), ([3, 2], [3]), ([4], [4]), ([5, 4], [4, 5]), ([6, 4], [4, 6]), ([7, 4], [4, 7]), ([4, 8], [4, 8]), ([9, 4], [9]), ([10], [10]), ([11, 10], [10, 11]), ([12, 10, 10], [10, 12]), ([13], [13]), ([14, 13], [13, 14]), ([13], [13]), ([13], [13]), ([17, 13], [13, 17]), ([16, 18, 13], [13, 16, 18]), ([19, 13], [13, 19]), ([20, 13], [13, 20]), ([15, 21, 13], [13, 15, 21]), ([13, 22, 10], [10, 13, 22]), ([10, 23], [10, 23])])
def impl_FilesOk.B4 : List Nat := [0, 1, 3, 7, 15, 31, 63, 127, 255, 511, 1023, 2047, 4095, 8191, 16383, 32767, 16383, 16383, 147455, 475135, 999423, 2047999, 4194303, 8388607, 16777215]
theorem impl_FilesOk.tab4 : rtab .any (opsOf Tryd.f30 4) = impl_FilesOk.T4 := by kernel_rfl
theorem impl_FilesOk.bits4 : waitsOk impl_FilesOk.T4.2 impl_FilesOk.B4 = true := by kernel_rfl
theorem impl_FilesOk.calls (k : Nat) (A0 : Option Addr) (c0 : Nat) (l0 : List (S31)) (r : Bool) (w : World) (c4 : Kd.C k31 w A0 l0.length l0) (c5 : l0.length ≤ c0) (hG : GW w) (h : impl_FilesOk.f k l0 = some r) :
  Calls Tryd.prog 30 #[.slice A0 l0.length c0] w fun e w' => e = .returned (.bool r) ∧ Below w.heap.size w w' := by
 have e4 := Tryd.underlying31
 have b2 := zA c4
 have e5 := zA c5
 clear c4 c5
 have HG := zA hG
 clear hG
 have HB := zA (Below.refl w.heap.size w)
 unfold impl_FilesOk.f at h
 have H := h
 clear h
 have H' := zA H
 clear H
 go_enter Tryd.func30, Tryd.ntmps30
 go_wp2
 go_loopg [7] k (fun kq v7 w' => ∃ (a0 : Int), v7 = .int .i64 a0 ∧ Aside0 (impl_FilesOk.l0 kq l0 l0 (l0.length : Int) a0 = some r) ∧ Aside0 (kq ≤ k) ∧ Aside0 (Below w.heap.size w w'))
 case atStart => exact ⟨(0), zS, H', ⟨Nat.le_refl _⟩, ⟨zB⟩⟩
 case round =>
  clear H'; obtain ⟨a0, rfl, HA, b8, HB⟩ := hrel
  cases gk with
  | zero => exact absurd HA.out (by simp [impl_FilesOk.l0])
  | succ k1 =>
   have H := HA.out; clear HA; simp only [impl_FilesOk.l0] at H; replace H := zI0 H
   rcases H with ⟨d3, H⟩ | ⟨d3, H⟩
   ·replace H := zD0 H; obtain ⟨e6, H⟩ := H; replace H := zD0 H; obtain ⟨e7, H⟩ := H; replace H := Option.bind_eq_some_iff.mp H; obtain ⟨e8, c6, H⟩ := H
    try dsimp only at H
    have A5 := zA c6; clear c6; replace H := zB0 H
    rcases H with ⟨rfl, H⟩ | ⟨rfl, H⟩
    ·replace H := zI1 H
     rcases H with ⟨c7, H⟩ | ⟨c7, H⟩
     ·have d4 : decide (60 < (((rd_T31 l0 a0).f1).size : Int)) = true := decide_eq_true c7; have d5 : decide (60 < ((rd_T31 l0 a0).f1).size) = true := decide_eq_true (by omega); clear c7; obtain rfl := zm H; have a4 : 0 ≤ (a0 : Int) := zD; have a5 : a0 < (l0.length : Int) := zD; obtain ⟨a8, a9, a6, a7⟩ := at_T31 b2.out a0 a4 a5; cases a9; replace a6 := zx HB a6; replace a7 := zx HB a7; replace a4 := eq_true a4; replace a5 := eq_true a5
      try go_wp2_with (first | ((with_reducible refine gate_dst (N := 4) rfl ?_); (try (refine gate_guard (by rfl) ?_; dsimp only)); refine box_event ?hg (N := 4) ?hd (cs := #[.string (⟨#[]⟩ : ByteArray), .string (⟨#[]⟩ : ByteArray)]) (t := 31) ?hr ?_; (case hd => rfl); (case hg => rfl); (case hr => first | (go_simp; done) | (go_simp; rfl)); intro a2 hg w8 hbox hb; have a1 := zA (hbox); have b9 := zi HB hg; have c1 := zi HB hg; replace HB := zA (below_step (zB) hb); clear hb hbox hg; obtain ⟨e9, f2, f3, f4⟩ := ze2 a1.out))
      generalize hW_ : ((w8.setCell ⟨a2, 0, none⟩ (.string ((rd_T31 l0 a0).f0))).setCell ⟨a2, 1, none⟩ (.string ((rd_T31 l0 a0).f1))) = c8; replace a1 : Aside0 (c8.heap[a2]? = some (.cells #[.string ((rd_T31 l0 a0).f0), .string ((rd_T31 l0 a0).f1)] 31 (0, 0))) := ⟨by subst hW_; (with_reducible repeat (first | refine blk_drewN ?_ _ | refine blk_drew ?_ | refine blk_alloc ?_ _)); refine blk_put (cs := #[.string ((rd_T31 l0 a0).f0), .string (⟨#[]⟩ : ByteArray)]) ?_ 1 _ rfl; (with_reducible repeat (first | refine blk_drewN ?_ _ | refine blk_drew ?_ | refine blk_alloc ?_ _)); refine blk_put (cs := #[.string (⟨#[]⟩ : ByteArray), .string (⟨#[]⟩ : ByteArray)]) ?_ 0 _ rfl; (with_reducible repeat (first | refine blk_drewN ?_ _ | refine blk_drew ?_ | refine blk_alloc ?_ _)); exact a1.out⟩; replace HB := zA (zh2 hW_.symm (zW HB.out)); clear hW_; replace a1 := zA (blk_drew a1.out); replace HB := zA (below_drew1 HB.out)
      refine start_ (n := 25) (S := fun w' => w'.cell? ⟨a2, 0, none⟩ = some (.string ((rd_T31 l0 a0).f0)) ∧ w'.cell? ⟨a2, 1, none⟩ = some (.string ((rd_T31 l0 a0).f1))) (ds := []) (Array.replicate 25 false) (by kernel_rfl) rfl rfl zO fun hHeld => ?_; refine with_tabW impl_FilesOk.tab4 impl_FilesOk.bits4 (fun HT_ HW_ => ?_)
      generalize c8.drew = f5 at a1 HB hHeld ⊢; refine zp 0 12 ?_; refine zt 1 13 ?_
      refine zo 2 (some 14) fun K hK => ?_
      refine goes_ Tryd.func28 (by kernel_rfl) rfl #[.string ((rd_T31 l0 a0).f0)] (by rfl) rfl rfl zM ?_
      with_reducible refine (impl_PathOk.calls k1 ((rd_T31 l0 a0).f0) true _ ?s1 A5.out).mono ?_
      (case s1 => exact GW.below HG.out (zW HB.out))
      rintro e f6 ⟨rfl, hb⟩
      refine ⟨_, rfl, ?_⟩
      replace a1 := zb a1 hb; replace HB := zh HB hb
      (try clear hb)
      refine hK.out _ _ zO fun hHeld => ?_
      clear hK K; refine zn ?_; refine zp 3 15 ?_; refine zp 4 16 ?_; refine zp 5 17 ?_; refine zt 6 18 ?_; refine zp 7 19 ?_; refine zp 8 20 ?_; refine zp 9 21 ?_; refine zp 10 22 ?_; refine zu 11 23 ?_; refine zu 12 24 ?_; refine zu 13 25 ?_; refine zu 14 26 ?_; refine zu 15 27 ?_; refine zu 16 28 ?_; refine zu 17 29 ?_; refine zu 18 30 ?_; refine zu 19 31 ?_; refine zu 20 32 ?_; refine zu 21 33 ?_; refine zu 22 34 ?_; refine zu 23 35 ?_; refine zp 24 36 ?_
      refine done_ (done_of HT_.out (by kernel_rfl)) ?_
      try go_wp2
      go_ret
      exact ⟨zE, zW HB.out⟩
     have d4 : decide (60 < (((rd_T31 l0 a0).f1).size : Int)) = false := decide_eq_false c7; have d5 : decide (60 < ((rd_T31 l0 a0).f1).size) = false := decide_eq_false (by omega); clear c7; replace H := zI1 H
     rcases H with ⟨b5, H⟩ | ⟨b5, H⟩
     ·have d6 : decide (0 < a0) = true := decide_eq_true b5; clear b5; obtain ⟨a3, b6⟩ : ∃ j_ : Int, (wrap64 (a0 - 1)) = j_ := ⟨_, rfl⟩
      replace H : (if 0 ≤ (a3) then (if (a3) < (l0.length : Int) then (if ((Op.bytesLess (((rd_T31 l0 (a3)).f0).toList) (((rd_T31 l0 a0).f0).toList)) = true) then (impl_FilesOk.l0 k1 l0 l0 (l0.length : Int) (wrap64 (a0 + 1))) else (some false)) else (none)) else (none)) = some r := by first | (rw [b6] at H; exact H) | (simp only [b6] at H ⊢; exact H)
      (try rw [b6] at A5)
      have hji14w : (IntKind.i64.wrap (a0 - 1)) = a3 := (i64_w _).trans b6; replace H := zD0 H; obtain ⟨f7, H⟩ := H; replace H := zD0 H; obtain ⟨f8, H⟩ := H; replace H := zI1 H
      rcases H with ⟨b7, H⟩ | ⟨b7, H⟩
      ·have d7 : (Op.bytesLess (((rd_T31 l0 (a3)).f0).toList) (((rd_T31 l0 a0).f0).toList)) = true := b7; clear b7; have H' := zA H; clear H; have a4 : 0 ≤ (a0 : Int) := zD; have a5 : a0 < (l0.length : Int) := zD; obtain ⟨a8, a9, a6, a7⟩ := at_T31 b2.out a0 a4 a5; cases a9; replace a6 := zx HB a6; replace a7 := zx HB a7; replace a4 := eq_true a4; replace a5 := eq_true a5
       try go_wp2_with (first | ((with_reducible refine gate_dst (N := 4) rfl ?_); (try (refine gate_guard (by rfl) ?_; dsimp only)); refine box_event ?hg (N := 4) ?hd (cs := #[.string (⟨#[]⟩ : ByteArray), .string (⟨#[]⟩ : ByteArray)]) (t := 31) ?hr ?_; (case hd => rfl); (case hg => rfl); (case hr => first | (go_simp; done) | (go_simp; rfl)); intro a2 hg d8 hbox hb; have a1 := zA (hbox); have b9 := zi HB hg; have c1 := zi HB hg; replace HB := zA (below_step (zB) hb); clear hb hbox hg; obtain ⟨f9, g0, g1, g2⟩ := ze2 a1.out))
       generalize hW_ : ((d8.setCell ⟨a2, 0, none⟩ (.string ((rd_T31 l0 a0).f0))).setCell ⟨a2, 1, none⟩ (.string ((rd_T31 l0 a0).f1))) = c9; replace a1 : Aside0 (c9.heap[a2]? = some (.cells #[.string ((rd_T31 l0 a0).f0), .string ((rd_T31 l0 a0).f1)] 31 (0, 0))) := ⟨by subst hW_; (with_reducible repeat (first | refine blk_drewN ?_ _ | refine blk_drew ?_ | refine blk_alloc ?_ _)); refine blk_put (cs := #[.string ((rd_T31 l0 a0).f0), .string (⟨#[]⟩ : ByteArray)]) ?_ 1 _ rfl; (with_reducible repeat (first | refine blk_drewN ?_ _ | refine blk_drew ?_ | refine blk_alloc ?_ _)); refine blk_put (cs := #[.string (⟨#[]⟩ : ByteArray), .string (⟨#[]⟩ : ByteArray)]) ?_ 0 _ rfl; (with_reducible repeat (first | refine blk_drewN ?_ _ | refine blk_drew ?_ | refine blk_alloc ?_ _)); exact a1.out⟩; replace HB := zA (zh2 hW_.symm (zW HB.out)); clear hW_; replace a1 := zA (blk_drew a1.out); replace HB := zA (below_drew1 HB.out); have b3 : 0 ≤ ((a3) : Int) := zD; have b4 : (a3) < (l0.length : Int) := zD; obtain ⟨c2, c3, b0, b1⟩ := at_T31 b2.out (a3) b3 b4; have d9 := b1; have e0 := b0; obtain rfl : a8 = c2 := (by injection c3); replace b0 := zx HB b0; replace b1 := zx HB b1; replace b3 := eq_true b3; replace b4 := eq_true b4
       refine start_ (n := 25) (S := fun w' => w'.cell? ⟨a2, 0, none⟩ = some (.string ((rd_T31 l0 a0).f0)) ∧ w'.cell? ⟨a2, 1, none⟩ = some (.string ((rd_T31 l0 a0).f1)) ∧ w'.cell? (a8.add (((a3)).toNat * 2)) = some (.string ((rd_T31 l0 (a3)).f0)) ∧ w'.cell? ⟨(a8.add (((a3)).toNat * 2)).block, (a8.add (((a3)).toNat * 2)).off + 1, none⟩ = some (.string ((rd_T31 l0 (a3)).f1))) (ds := []) (Array.replicate 25 false) (by kernel_rfl) rfl rfl zO fun hHeld => ?_; refine with_tabW impl_FilesOk.tab4 impl_FilesOk.bits4 (fun HT_ HW_ => ?_)
       generalize c9.drew = g3 at a1 HB b0 b1 hHeld ⊢; refine zp 0 12 ?_; refine zt 1 13 ?_
       refine zo 2 (some 14) fun K hK => ?_
       refine goes_ Tryd.func28 (by kernel_rfl) rfl #[.string ((rd_T31 l0 a0).f0)] (by rfl) rfl rfl zM ?_
       with_reducible refine (impl_PathOk.calls k1 ((rd_T31 l0 a0).f0) true _ ?s1 A5.out).mono ?_
       (case s1 => exact GW.below HG.out (zW HB.out))
       rintro e g4 ⟨rfl, hb⟩
       refine ⟨_, rfl, ?_⟩
       replace a1 := zb a1 hb; replace HB := zh HB hb
       (try clear hb)
       refine hK.out _ _ zO fun hHeld => ?_
       clear hK K; refine zn ?_; refine zp 3 15 ?_; refine zp 4 16 ?_; refine zp 5 17 ?_; refine zt 6 18 ?_; refine zp 7 19 ?_; refine zp 8 20 ?_; refine zp 9 21 ?_; refine zp 10 22 ?_; refine zp 11 23 ?_; refine zp 12 24 ?_; refine zp 13 25 ?_; refine zp 14 26 ?_; refine zp 16 28 ?_; refine zp 17 29 ?_; refine zp 18 30 ?_; refine zp 19 31 ?_; refine zp 20 32 ?_; refine zt 15 27 ?_; refine zt 21 33 ?_; refine zp 22 34 ?_; refine zp 23 35 ?_; refine zp 24 36 ?_
       refine done_ (done_of HT_.out (by kernel_rfl)) ?_
       try go_wp2
       go_roundg k1
       case measure => have := b8.out; omega
       case rel => exact ⟨(wrap64 (a0 + 1)), zS, H', ⟨by have := b8.out; omega⟩, ⟨zW HB.out⟩⟩
      have d7 : (Op.bytesLess (((rd_T31 l0 (a3)).f0).toList) (((rd_T31 l0 a0).f0).toList)) = false := by simpa using b7
      clear b7; obtain rfl := zm H; have a4 : 0 ≤ (a0 : Int) := zD; have a5 : a0 < (l0.length : Int) := zD; obtain ⟨a8, a9, a6, a7⟩ := at_T31 b2.out a0 a4 a5; cases a9; replace a6 := zx HB a6; replace a7 := zx HB a7; replace a4 := eq_true a4; replace a5 := eq_true a5
      try go_wp2_with (first | ((with_reducible refine gate_dst (N := 4) rfl ?_); (try (refine gate_guard (by rfl) ?_; dsimp only)); refine box_event ?hg (N := 4) ?hd (cs := #[.string (⟨#[]⟩ : ByteArray), .string (⟨#[]⟩ : ByteArray)]) (t := 31) ?hr ?_; (case hd => rfl); (case hg => rfl); (case hr => first | (go_simp; done) | (go_simp; rfl)); intro a2 hg e1 hbox hb; have a1 := zA (hbox); have b9 := zi HB hg; have c1 := zi HB hg; replace HB := zA (below_step (zB) hb); clear hb hbox hg; obtain ⟨g5, g6, g7, g8⟩ := ze2 a1.out))
      generalize hW_ : ((e1.setCell ⟨a2, 0, none⟩ (.string ((rd_T31 l0 a0).f0))).setCell ⟨a2, 1, none⟩ (.string ((rd_T31 l0 a0).f1))) = d0; replace a1 : Aside0 (d0.heap[a2]? = some (.cells #[.string ((rd_T31 l0 a0).f0), .string ((rd_T31 l0 a0).f1)] 31 (0, 0))) := ⟨by subst hW_; (with_reducible repeat (first | refine blk_drewN ?_ _ | refine blk_drew ?_ | refine blk_alloc ?_ _)); refine blk_put (cs := #[.string ((rd_T31 l0 a0).f0), .string (⟨#[]⟩ : ByteArray)]) ?_ 1 _ rfl; (with_reducible repeat (first | refine blk_drewN ?_ _ | refine blk_drew ?_ | refine blk_alloc ?_ _)); refine blk_put (cs := #[.string (⟨#[]⟩ : ByteArray), .string (⟨#[]⟩ : ByteArray)]) ?_ 0 _ rfl; (with_reducible repeat (first | refine blk_drewN ?_ _ | refine blk_drew ?_ | refine blk_alloc ?_ _)); exact a1.out⟩; replace HB := zA (zh2 hW_.symm (zW HB.out)); clear hW_; replace a1 := zA (blk_drew a1.out); replace HB := zA (below_drew1 HB.out); have b3 : 0 ≤ ((a3) : Int) := zD; have b4 : (a3) < (l0.length : Int) := zD; obtain ⟨c2, c3, b0, b1⟩ := at_T31 b2.out (a3) b3 b4; have d9 := b1; have e0 := b0; obtain rfl : a8 = c2 := (by injection c3); replace b0 := zx HB b0; replace b1 := zx HB b1; replace b3 := eq_true b3; replace b4 := eq_true b4
      refine start_ (n := 25) (S := fun w' => w'.cell? ⟨a2, 0, none⟩ = some (.string ((rd_T31 l0 a0).f0)) ∧ w'.cell? ⟨a2, 1, none⟩ = some (.string ((rd_T31 l0 a0).f1)) ∧ w'.cell? (a8.add (((a3)).toNat * 2)) = some (.string ((rd_T31 l0 (a3)).f0)) ∧ w'.cell? ⟨(a8.add (((a3)).toNat * 2)).block, (a8.add (((a3)).toNat * 2)).off + 1, none⟩ = some (.string ((rd_T31 l0 (a3)).f1))) (ds := []) (Array.replicate 25 false) (by kernel_rfl) rfl rfl zO fun hHeld => ?_; refine with_tabW impl_FilesOk.tab4 impl_FilesOk.bits4 (fun HT_ HW_ => ?_)
      generalize d0.drew = g9 at a1 HB b0 b1 hHeld ⊢; refine zp 0 12 ?_; refine zt 1 13 ?_
      refine zo 2 (some 14) fun K hK => ?_
      refine goes_ Tryd.func28 (by kernel_rfl) rfl #[.string ((rd_T31 l0 a0).f0)] (by rfl) rfl rfl zM ?_
      with_reducible refine (impl_PathOk.calls k1 ((rd_T31 l0 a0).f0) true _ ?s1 A5.out).mono ?_
      (case s1 => exact GW.below HG.out (zW HB.out))
      rintro e h0 ⟨rfl, hb⟩
      refine ⟨_, rfl, ?_⟩
      replace a1 := zb a1 hb; replace HB := zh HB hb
      (try clear hb)
      refine hK.out _ _ zO fun hHeld => ?_
      clear hK K; refine zn ?_; refine zp 3 15 ?_; refine zp 4 16 ?_; refine zp 5 17 ?_; refine zt 6 18 ?_; refine zp 7 19 ?_; refine zp 8 20 ?_; refine zp 9 21 ?_; refine zp 10 22 ?_; refine zp 11 23 ?_; refine zp 12 24 ?_; refine zp 13 25 ?_; refine zp 14 26 ?_; refine zp 16 28 ?_; refine zp 17 29 ?_; refine zp 18 30 ?_; refine zp 19 31 ?_; refine zp 20 32 ?_; refine zt 15 27 ?_; refine zt 21 33 ?_; refine zp 22 34 ?_; refine zp 23 35 ?_; refine zp 24 36 ?_
      refine done_ (done_of HT_.out (by kernel_rfl)) ?_
      try go_wp2
      go_ret
      exact ⟨by first | rfl | (simp [errW_none, errW_some] <;> rfl) | (simp only [← b6]; first | rfl | (simp [errW_none, errW_some] <;> rfl)) | (simp [*, errW_none, errW_some] <;> rfl), zW HB.out⟩
     have d6 : decide (0 < a0) = false := decide_eq_false b5; clear b5; have H' := zA H; clear H; have a4 : 0 ≤ (a0 : Int) := zD; have a5 : a0 < (l0.length : Int) := zD; obtain ⟨a8, a9, a6, a7⟩ := at_T31 b2.out a0 a4 a5; cases a9; replace a6 := zx HB a6; replace a7 := zx HB a7; replace a4 := eq_true a4; replace a5 := eq_true a5
     try go_wp2_with (first | ((with_reducible refine gate_dst (N := 4) rfl ?_); (try (refine gate_guard (by rfl) ?_; dsimp only)); refine box_event ?hg (N := 4) ?hd (cs := #[.string (⟨#[]⟩ : ByteArray), .string (⟨#[]⟩ : ByteArray)]) (t := 31) ?hr ?_; (case hd => rfl); (case hg => rfl); (case hr => first | (go_simp; done) | (go_simp; rfl)); intro a2 hg e2 hbox hb; have a1 := zA (hbox); have b9 := zi HB hg; have c1 := zi HB hg; replace HB := zA (below_step (zB) hb); clear hb hbox hg; obtain ⟨h1, h2, h3, h4⟩ := ze2 a1.out))
     generalize hW_ : ((e2.setCell ⟨a2, 0, none⟩ (.string ((rd_T31 l0 a0).f0))).setCell ⟨a2, 1, none⟩ (.string ((rd_T31 l0 a0).f1))) = d1; replace a1 : Aside0 (d1.heap[a2]? = some (.cells #[.string ((rd_T31 l0 a0).f0), .string ((rd_T31 l0 a0).f1)] 31 (0, 0))) := ⟨by subst hW_; (with_reducible repeat (first | refine blk_drewN ?_ _ | refine blk_drew ?_ | refine blk_alloc ?_ _)); refine blk_put (cs := #[.string ((rd_T31 l0 a0).f0), .string (⟨#[]⟩ : ByteArray)]) ?_ 1 _ rfl; (with_reducible repeat (first | refine blk_drewN ?_ _ | refine blk_drew ?_ | refine blk_alloc ?_ _)); refine blk_put (cs := #[.string (⟨#[]⟩ : ByteArray), .string (⟨#[]⟩ : ByteArray)]) ?_ 0 _ rfl; (with_reducible repeat (first | refine blk_drewN ?_ _ | refine blk_drew ?_ | refine blk_alloc ?_ _)); exact a1.out⟩; replace HB := zA (zh2 hW_.symm (zW HB.out)); clear hW_; replace a1 := zA (blk_drew a1.out); replace HB := zA (below_drew1 HB.out)
     refine start_ (n := 25) (S := fun w' => w'.cell? ⟨a2, 0, none⟩ = some (.string ((rd_T31 l0 a0).f0)) ∧ w'.cell? ⟨a2, 1, none⟩ = some (.string ((rd_T31 l0 a0).f1))) (ds := []) (Array.replicate 25 false) (by kernel_rfl) rfl rfl zO fun hHeld => ?_; refine with_tabW impl_FilesOk.tab4 impl_FilesOk.bits4 (fun HT_ HW_ => ?_)
     generalize d1.drew = h5 at a1 HB hHeld ⊢; refine zp 0 12 ?_; refine zt 1 13 ?_
     refine zo 2 (some 14) fun K hK => ?_
     refine goes_ Tryd.func28 (by kernel_rfl) rfl #[.string ((rd_T31 l0 a0).f0)] (by rfl) rfl rfl zM ?_
     with_reducible refine (impl_PathOk.calls k1 ((rd_T31 l0 a0).f0) true _ ?s1 A5.out).mono ?_
     (case s1 => exact GW.below HG.out (zW HB.out))
     rintro e h6 ⟨rfl, hb⟩
     refine ⟨_, rfl, ?_⟩
     replace a1 := zb a1 hb; replace HB := zh HB hb
     (try clear hb)
     refine hK.out _ _ zO fun hHeld => ?_
     clear hK K; refine zn ?_; refine zp 3 15 ?_; refine zp 4 16 ?_; refine zp 5 17 ?_; refine zt 6 18 ?_; refine zp 7 19 ?_; refine zp 8 20 ?_; refine zp 9 21 ?_; refine zp 10 22 ?_; refine zp 11 23 ?_; refine zp 12 24 ?_; refine zp 13 25 ?_; refine zu 14 26 ?_; refine zu 15 27 ?_; refine zu 16 28 ?_; refine zu 17 29 ?_; refine zu 18 30 ?_; refine zu 19 31 ?_; refine zu 20 32 ?_; refine zu 21 33 ?_; refine zu 22 34 ?_; refine zp 23 35 ?_; refine zp 24 36 ?_
     refine done_ (done_of HT_.out (by kernel_rfl)) ?_
     try go_wp2
     go_roundg k1
     case measure => have := b8.out; omega
     case rel => exact ⟨(wrap64 (a0 + 1)), zS, H', ⟨by have := b8.out; omega⟩, ⟨zW HB.out⟩⟩
    obtain rfl := zm H; have a4 : 0 ≤ (a0 : Int) := zD; have a5 : a0 < (l0.length : Int) := zD; obtain ⟨a8, a9, a6, a7⟩ := at_T31 b2.out a0 a4 a5; cases a9; replace a6 := zx HB a6; replace a7 := zx HB a7; replace a4 := eq_true a4; replace a5 := eq_true a5
    try go_wp2_with (first | ((with_reducible refine gate_dst (N := 4) rfl ?_); (try (refine gate_guard (by rfl) ?_; dsimp only)); refine box_event ?hg (N := 4) ?hd (cs := #[.string (⟨#[]⟩ : ByteArray), .string (⟨#[]⟩ : ByteArray)]) (t := 31) ?hr ?_; (case hd => rfl); (case hg => rfl); (case hr => first | (go_simp; done) | (go_simp; rfl)); intro a2 hg e3 hbox hb; have a1 := zA (hbox); have b9 := zi HB hg; have c1 := zi HB hg; replace HB := zA (below_step (zB) hb); clear hb hbox hg; obtain ⟨h7, h8, h9, i0⟩ := ze2 a1.out))
    generalize hW_ : ((e3.setCell ⟨a2, 0, none⟩ (.string ((rd_T31 l0 a0).f0))).setCell ⟨a2, 1, none⟩ (.string ((rd_T31 l0 a0).f1))) = d2; replace a1 : Aside0 (d2.heap[a2]? = some (.cells #[.string ((rd_T31 l0 a0).f0), .string ((rd_T31 l0 a0).f1)] 31 (0, 0))) := ⟨by subst hW_; (with_reducible repeat (first | refine blk_drewN ?_ _ | refine blk_drew ?_ | refine blk_alloc ?_ _)); refine blk_put (cs := #[.string ((rd_T31 l0 a0).f0), .string (⟨#[]⟩ : ByteArray)]) ?_ 1 _ rfl; (with_reducible repeat (first | refine blk_drewN ?_ _ | refine blk_drew ?_ | refine blk_alloc ?_ _)); refine blk_put (cs := #[.string (⟨#[]⟩ : ByteArray), .string (⟨#[]⟩ : ByteArray)]) ?_ 0 _ rfl; (with_reducible repeat (first | refine blk_drewN ?_ _ | refine blk_drew ?_ | refine blk_alloc ?_ _)); exact a1.out⟩; replace HB := zA (zh2 hW_.symm (zW HB.out)); clear hW_; replace a1 := zA (blk_drew a1.out); replace HB := zA (below_drew1 HB.out)
    refine start_ (n := 25) (S := fun w' => w'.cell? ⟨a2, 0, none⟩ = some (.string ((rd_T31 l0 a0).f0)) ∧ w'.cell? ⟨a2, 1, none⟩ = some (.string ((rd_T31 l0 a0).f1))) (ds := []) (Array.replicate 25 false) (by kernel_rfl) rfl rfl zO fun hHeld => ?_; refine with_tabW impl_FilesOk.tab4 impl_FilesOk.bits4 (fun HT_ HW_ => ?_)
    generalize d2.drew = i1 at a1 HB hHeld ⊢; refine zp 0 12 ?_; refine zt 1 13 ?_
    refine zo 2 (some 14) fun K hK => ?_
    refine goes_ Tryd.func28 (by kernel_rfl) rfl #[.string ((rd_T31 l0 a0).f0)] (by rfl) rfl rfl zM ?_
    with_reducible refine (impl_PathOk.calls k1 ((rd_T31 l0 a0).f0) false _ ?s1 A5.out).mono ?_
    (case s1 => exact GW.below HG.out (zW HB.out))
    rintro e i2 ⟨rfl, hb⟩
    refine ⟨_, rfl, ?_⟩
    replace a1 := zb a1 hb; replace HB := zh HB hb
    (try clear hb)
    refine hK.out _ _ zO fun hHeld => ?_
    clear hK K; refine zn ?_; refine zp 3 15 ?_; refine zp 4 16 ?_; refine zu 5 17 ?_; refine zu 6 18 ?_; refine zu 7 19 ?_; refine zu 8 20 ?_; refine zp 9 21 ?_; refine zp 10 22 ?_; refine zu 11 23 ?_; refine zu 12 24 ?_; refine zu 13 25 ?_; refine zu 14 26 ?_; refine zu 15 27 ?_; refine zu 16 28 ?_; refine zu 17 29 ?_; refine zu 18 30 ?_; refine zu 19 31 ?_; refine zu 20 32 ?_; refine zu 21 33 ?_; refine zu 22 34 ?_; refine zu 23 35 ?_; refine zp 24 36 ?_
    refine done_ (done_of HT_.out (by kernel_rfl)) ?_
    try go_wp2
    go_ret
    exact ⟨zE, zW HB.out⟩
   obtain rfl := zm H
   go_wp2
   go_ret
   exact ⟨zE, zB⟩
end Go.Proofs.YtbaeljcnbkeipaaDoor.PGC
namespace Go.Proofs.YtbaeljcnbkeipaaDoor.PGC
open Go.RowKit YtbaeljcnbkeipaaDoorW.PrintWords YtbaeljcnbkeipaaDoorW.PrintLast YtbaeljcnbkeipaaDoorW.PrintMore
attribute [local go_sem high] Mine.str_gtr Mine.str_leq Mine.str_geq
attribute [local go_sem] max2_int min2_int max_two min_two max_three min_three max_four min_four   -- for this text's walks alone
set_option linter.unusedVariables false
set_option maxHeartbeats 8000000
set_option maxRecDepth 100000
set_option linter.unusedSimpArgs false
-- NOT PRINTED: function 101 (impl_File_101)
-- NOT PRINTED: function 58 (impl_File_58)
/-! ### impl_File_59: function 59 -/
def impl_File_59.f (l0 : List (S31)) : Option ((List (S31))) := (some (([] : List (S31)) : List (S31))).bind fun a0 => (if a0.length + l0.length < 4398046511104 then (some (a0 ++ l0)) else (none))
theorem impl_File_59.calls (A0 : Option Addr) (c0 : Nat) (l0 : List (S31)) (r : List (S31)) (w : World) (a5 : Kd.C k31 w A0 l0.length l0) (a6 : l0.length ≤ c0) (h : impl_File_59.f l0 = some r) :
  Calls Tryd.prog 59 #[.slice A0 l0.length c0] w fun e w' => ∃ a7 : Value, e = .returned (a7) ∧ Kd.R k31 31 w' w.heap.size (fun _ => True) a7 r ∧ Below w.heap.size w w' := by
 have a8 := zA a5
 have b5 := zA a6
 clear a5 a6
 have HB := zA (Below.refl w.heap.size w)
 unfold impl_File_59.f at h
 have H := h
 clear h
 obtain ⟨a1, a2⟩ : ∃ y_ : List (S31), y_ = (([] : List (S31))) := ⟨_, rfl⟩
 replace H : (if a1.length + l0.length < 4398046511104 then (some (a1 ++ l0)) else (none)) = some r := zY a2 H
 have a3 := zA a2
 clear a2
 replace H := zC0 H
 obtain ⟨c2, H⟩ := H
 have b1 := zA c2
 clear c2
 obtain ⟨b2, a4⟩ : ∃ y_ : List (S31), y_ = (a1 ++ l0) := ⟨_, rfl⟩
 replace H : (some b2) = some r := zY a4 H
 have a9 := zA a4
 clear a4
 obtain rfl := zm H
 rcases A0 with _ | A0v
 ·have he_ : l0 = [] := by
   rcases l0 with _ | ⟨x_, l_⟩
   ·rfl
   ·obtain ⟨_, h_, _⟩ := a8.out.2.2 (by simp); cases h_
  subst he_
  have hq_ : ∀ W : World, Sem.run Tryd.prog (Go.binOp .eql 27 (.slice none 0 c0) (.slice none 0 0)) W = .ok (.bool true) W := fun W => by rw [Lib.run_eql_slice_nil W 27 31 none 0 c0 0 0 Tryd.underlying27]; rfl
  go_enter Tryd.func59, Tryd.ntmps59
  go_wp2
  go_ret
  exact ⟨_, rfl, (by rw [a9.out, a3.out]; exact Kd.R_nil _ _ _ _ _), zB⟩
 have hq_ : ∀ W : World, Sem.run Tryd.prog (Go.binOp .eql 27 (.slice (some A0v) l0.length c0) (.slice none 0 0)) W = .ok (.bool false) W := fun W => by rw [Lib.run_eql_slice_nil W 27 31 (some A0v) l0.length c0 0 0 Tryd.underlying27]; rfl
 go_enter Tryd.func59, Tryd.ntmps59
 go_wp2_with (first | ((with_reducible refine gate_dst (N := 5) rfl ?_); refine Kd.R_lit k31 _ 31 ?hg (N := 5) ?hd (xs := ([] : List (S31))) (inner := []) (ok := fun _ => True) ?hr ?hp (fun _ hk => hk) trivial (Below.refl _ _) (Nat.le_refl _) (by simp) ?_; (case hd => rfl); (case hg => rfl); (case hr => first | (go_simp; done) | (go_simp; rfl)); (case hp => exact (Reps.none _ _)); intro b3 w3 a0 hb hg_ hnew_; clear hg_ hnew_; (first | rw [← a3.out] at a0 | (simp only [Int.reduceToNat] at a0; rw [← a3.out] at a0)); have b0 := zA (Kd.R_lower a0 (below_size (zB))); replace HB := zA (below_step (zB) hb); clear hb a0) | ((with_reducible refine gate_builtin (b := .append) (xs := #[.tmp 5, .tmp 6]) rfl ?_); at_builtin; refine Kd.R_append_rows k31 (w0 := w) w.heap.size rfl (.tmp 5) (.tmp 6) 27 31 (.agg #[(.string ⟨#[]⟩), (.string ⟨#[]⟩)]) 32 rfl Tryd.underlying27 info31 rfl (by decide) (by omega) b3 a1 l0 _ _ _ (fun _ => True) (fun _ => False) rfl rfl ?aO ?aR (fun _ _ h => h) (fun _ h => h.elim) ?aF ?aB ?aS ?aL ?_; (case aR => repeat (first | exact (Kd.C_below a8.out HB.out) | (with_reducible refine Kd.C_alloc ?_ _) | (with_reducible refine Kd.C_drewN ?_ _) | (with_reducible refine Kd.C_drew ?_))); (case aB => exact (zB)); (case aF => exact (fun _ _ => trivial)); (case aO => exact (zR b0.out)); (case aS => exact (below_size (zB))); (case aL => have := b1.out; omega); intro b6 w5 ho hb hg hat; rw [← a9.out] at ho; replace HB := zA (hb); have b4 := zA (ho); clear b0; clear ho hb hg hat))
 go_ret
 exact ⟨_, zE, zR b4.out, zB⟩
-- NOT PRINTED: function 61 (impl_File_61)
/-! ### impl_PutFile: function 13 -/
/-- The cells of a row of files. -/
def impl_PutFile.fl (l : List S31) : List Value := l.flatMap fun x => [.string x.f0, .string x.f1]
theorem impl_PutFile.fl_length (l : List S31) : (impl_PutFile.fl l).length = l.length * 2 := by
 induction l with
 | nil => rfl
 | cons x l ih => simp only [impl_PutFile.fl, List.flatMap_cons, List.length_append, List.length_cons, List.length_nil] at ih ⊢; omega
theorem impl_PutFile.fl_app (l m : List S31) : impl_PutFile.fl (l ++ m) = impl_PutFile.fl l ++ impl_PutFile.fl m := by simp [impl_PutFile.fl]
theorem impl_PutFile.fl_take (l : List S31) (k : Nat) : (impl_PutFile.fl l).take (k * 2) = impl_PutFile.fl (l.take k) := by
 induction l generalizing k with
 | nil => simp [impl_PutFile.fl]
 | cons x l ih =>
  cases k with
  | zero => simp [impl_PutFile.fl]
  | succ k =>
   have := ih k
   simp only [impl_PutFile.fl, List.flatMap_cons, List.take_succ_cons] at this ⊢
   rw [show (k + 1) * 2 = k * 2 + 2 by omega]
   simp [this]
theorem impl_PutFile.fl_drop (l : List S31) (k : Nat) : (impl_PutFile.fl l).drop (k * 2) = impl_PutFile.fl (l.drop k) := by
 induction l generalizing k with
 | nil => simp [impl_PutFile.fl]
 | cons x l ih =>
  cases k with
  | zero => simp [impl_PutFile.fl]
  | succ k =>
   have := ih k
   simp only [impl_PutFile.fl, List.flatMap_cons, List.drop_succ_cons] at this ⊢
   rw [show (k + 1) * 2 = k * 2 + 2 by omega]
   simp [this]
theorem impl_PutFile.fl_one {l : List S31} {v : Value} (h : v ∈ impl_PutFile.fl l) : v.oneCell' = true := by
 simp only [impl_PutFile.fl, List.mem_flatMap, List.mem_cons, List.not_mem_nil, or_false] at h
 obtain ⟨x, _, rfl | rfl⟩ := h <;> rfl
theorem impl_PutFile.reps_fl {w : World} {base : Nat} {ok : Nat → Prop} {xs : List S31} {cs : List Value} (h : Reps (k31.M w base ok) 2 xs cs) : cs = impl_PutFile.fl xs := by
 induction xs generalizing cs with
 | nil => have := h.1; simpa [impl_PutFile.fl] using this
 | cons x xs ih =>
  have h0 := k31_openM (h.2 0 x rfl)
  have h1 : Reps (k31.M w base ok) 2 xs (cs.drop 2) := ⟨by rw [List.length_drop, h.1, List.length_cons]; omega, fun j p hp => by
   have := h.2 (j + 1) p (by simpa using hp)
   rwa [show (j + 1) * 2 = 2 + j * 2 by omega, ← List.drop_drop] at this⟩
  have h2 := ih h1
  simp only [Nat.zero_mul, List.drop_zero] at h0
  rw [← List.take_append_drop 2 cs, h0, h2]
  simp [impl_PutFile.fl]
theorem impl_PutFile.fl_reps (w : World) (base : Nat) (ok : Nat → Prop) (xs : List S31) : Reps (k31.M w base ok) 2 xs (impl_PutFile.fl xs) := by
 refine ⟨impl_PutFile.fl_length xs, fun j p hp => ?_⟩
 have hj : j < xs.length := (List.getElem?_eq_some_iff.1 hp).1
 have e : xs.drop j = p :: xs.drop (j + 1) := by
  rw [List.drop_eq_getElem_cons hj, (List.getElem?_eq_some_iff.1 hp).2]
 rw [impl_PutFile.fl_drop, e]
 have : (impl_PutFile.fl (p :: xs.drop (j + 1))).take 2 = [.string p.f0, .string p.f1] := by simp [impl_PutFile.fl]
 rw [this]
 exact k31_mkM w base ok p
theorem impl_PutFile.row_open {w : World} {base g n c : Nat} {ok : Nat → Prop} {xs : List S31} (h : Kd.R k31 31 w base ok (.slice (some ⟨g, 0, none⟩) n c) xs) :
  ∃ cur, w.heap[g]? = some (.cells cur 31 (0, 0)) ∧ cur.size = c * 2 ∧ n ≤ c ∧ c ≤ maxLen ∧ n = xs.length ∧ base ≤ g ∧ ok g ∧ cur.toList.take (n * 2) = impl_PutFile.fl xs := by
 have hn := (Kd.R_reads' h).1
 obtain ⟨hok, inner, hown, hr⟩ := h
 rcases hown.2 with ⟨hv, _⟩ | ⟨g', cap', cur, hv, hb, hh, hmc, hcm, hcs, ht⟩
 ·cases hv
 ·injection hv with ha hm' hc; injection ha with ha; injection ha with hg; subst hg; subst hc
  exact ⟨cur, hh, hcs, by omega, hcm, hn, hb, hok g rfl, by rw [hn]; exact ht.trans (impl_PutFile.reps_fl hr)⟩
theorem impl_PutFile.row_mk {w : World} {base g n c : Nat} {ok : Nat → Prop} {xs : List S31} {cur : Array Value} (h : w.heap[g]? = some (.cells cur 31 (0, 0))) (hs : cur.size = c * 2) (hc : n ≤ c) (hm : c ≤ maxLen) (hn : n = xs.length) (hb : base ≤ g) (ho : ok g) (ht : cur.toList.take (n * 2) = impl_PutFile.fl xs) :
  Kd.R k31 31 w base ok (.slice (some ⟨g, 0, none⟩) n c) xs := by
 refine ⟨fun k hk => ?_, impl_PutFile.fl xs, ⟨impl_PutFile.fl_length xs, .inr ⟨g, c, cur, by rw [hn], hb, h, by omega, hm, hs, by rw [← hn]; exact ht⟩⟩, impl_PutFile.fl_reps _ _ _ _⟩
 simp only [Value.ownBlock, Option.some.injEq] at hk
 exact hk ▸ ho
/-- 'copy(d, s)' where an element has two cells, in a row of its own. -/
theorem impl_PutFile.run_copy {P : Program} (w : World) (dT sT ty elem : TypeId) (g o dLen dCap : Nat) (a : Addr) (sLen sCap : Nat) (cur : Array Value) (t : TypeId) (cs : List Value)
  (hu : P.underlying dT = some (.slice elem)) (hs : (P.info? elem).map (·.size) = some 2)
  (hg : w.heap[g]? = some (.cells cur t (0, 0))) (hn : cs.length = Nat.min sLen dLen * 2)
  (hsrc : ∀ j v, cs[j]? = some v → w.cell? (a.add j) = some v) (hfit : o + cs.length ≤ cur.size) (h1 : ∀ v ∈ cs, v.oneCell' = true) :
  (Builtin.copy_ #[dT, sT] ty #[.slice (some ⟨g, o, none⟩) dLen dCap, .slice (some a) sLen sCap]).run P w =
   .ok (goInt (Nat.min sLen dLen)) (w.setRow g (cur.toList.take o ++ cs ++ cur.toList.drop (o + cs.length)).toArray) := by
 have hl := run_loadCells_list (P := P) w a cs hsrc
 have hst := run_storeCells_at P g o t cs 0 cur w hg (by simpa using hfit) h1
 cases hq : P.info? elem with
 | none => simp [hq] at hs
 | some i =>
  have hi : i.size = 2 := by simpa [hq] using hs
  simp [Builtin.copy_, run_underlying hu, Builtin.lenOf, Builtin.firstCells, sizeOf, typeInfo, hq, hi, ← hn, hl, hst]
theorem impl_PutFile.zeroCells (n : Nat) : (Builtin.zeroCells (Value.agg #[.string ⟨#[]⟩, .string ⟨#[]⟩]).cells n).toList = impl_PutFile.fl (List.replicate n ⟨⟨#[]⟩, ⟨#[]⟩⟩) := by
 have e : (Value.agg #[.string ⟨#[]⟩, .string ⟨#[]⟩]).cells = #[.string ⟨#[]⟩, .string ⟨#[]⟩] := by first | rfl | simp [Value.cells]
 rw [e]
 have hall : ∀ v ∈ impl_PutFile.fl (List.replicate n ⟨⟨#[]⟩, ⟨#[]⟩⟩), v = .string ⟨#[]⟩ := by
  intro v hv
  simp only [impl_PutFile.fl, List.mem_flatMap, List.mem_replicate, List.mem_cons, List.not_mem_nil, or_false] at hv
  obtain ⟨x, ⟨_, rfl⟩, h⟩ := hv
  rcases h with rfl | rfl <;> rfl
 have a0 : ∀ v ∈ (Builtin.zeroCells (#[.string ⟨#[]⟩, .string ⟨#[]⟩] : Array Value) n).toList, v = .string ⟨#[]⟩ := by
  intro v hv
  simp only [Builtin.zeroCells, Array.toList_map, List.mem_map] at hv
  obtain ⟨i, _, rfl⟩ := hv
  have : i % 2 = 0 ∨ i % 2 = 1 := by omega
  rcases this with h | h <;> simp [h]
 have hl : (Builtin.zeroCells (#[.string ⟨#[]⟩, .string ⟨#[]⟩] : Array Value) n).toList.length = (impl_PutFile.fl (List.replicate n ⟨⟨#[]⟩, ⟨#[]⟩⟩)).length := by
  rw [impl_PutFile.fl_length]
  simp [Builtin.zeroCells]
 refine List.ext_getElem hl fun i h1 h2 => ?_
 rw [a0 _ (List.getElem_mem h1), hall _ (List.getElem_mem h2)]
/-- 'clear(s)' where an element has two cells, in a row of its own. -/
theorem impl_PutFile.run_clear (P : Program) (w : World) (t e ty : TypeId) (ht : P.underlying t = some (.slice e)) (hv : ∀ w, (zeroValue e).run P w = .ok (.agg #[.string ⟨#[]⟩, .string ⟨#[]⟩]) w) (g o n c : Nat) (cur : Array Value) (te : TypeId)
  (hg : w.heap[g]? = some (.cells cur te (0, 0))) (hfit : o + n * 2 ≤ cur.size) :
  (Builtin.clear_ #[t] ty #[.slice (some ⟨g, o, none⟩) n c]).run P w = .ok (.tuple #[]) (w.setRow g (cur.toList.take o ++ impl_PutFile.fl (List.replicate n ⟨⟨#[]⟩, ⟨#[]⟩⟩) ++ cur.toList.drop (o + n * 2)).toArray) := by
 have hst := run_storeCells_at P g o te (impl_PutFile.fl (List.replicate n ⟨⟨#[]⟩, ⟨#[]⟩⟩)) 0 cur w hg (by rw [impl_PutFile.fl_length, List.length_replicate]; simpa using hfit) (fun v hv => impl_PutFile.fl_one hv)
 rw [impl_PutFile.fl_length, List.length_replicate] at hst
 cases n with
 | zero =>
  simp only [List.replicate_zero, Nat.zero_mul, Nat.add_zero, show impl_PutFile.fl [] = [] from rfl, List.append_nil, List.take_append_drop, Array.toArray_toList]
  rw [setRow_self w g cur te (0, 0) hg]
  simp [Builtin.clear_, run_underlying ht]
 | succ n =>
  simp [Builtin.clear_, run_underlying ht, hv, impl_PutFile.zeroCells, hst]
theorem impl_PutFile.grown_setRow (w : World) (g : Nat) (cs : Array Value) : w.grownBy (w.setRow g cs) (some g) :=
 ⟨rfl, rfl, rfl, by simp [World.setRow], fun k _ hne => setRow_other w g k cs (fun e => hne (by rw [e]))⟩
theorem impl_PutFile.grown {w w1 w2 : World} {row : Option Nat} (h : w.grownBy w1 row) (hb : Below w1.heap.size w1 w2) : w.grownBy w2 row :=
 ⟨hb.os.trans h.os, hb.tape.trans h.tape, hb.output.trans h.output, Nat.le_trans h.size hb.size, fun k hk hne => (hb.block k (Nat.lt_of_lt_of_le hk h.size)).trans (h.block k hk hne)⟩
theorem impl_PutFile.grown2 {w w1 w2 : World} {row : Option Nat} (h : w.grownBy w1 row) (h2 : w1.grownBy w2 row) : w.grownBy w2 row :=
 ⟨h2.os.trans h.os, h2.tape.trans h.tape, h2.output.trans h.output, Nat.le_trans h.size h2.size, fun k hk hne => (h2.block k (Nat.lt_of_lt_of_le hk h.size) hne).trans (h.block k hk hne)⟩
set_option maxHeartbeats 2000000 in
set_option maxRecDepth 100000 in
theorem impl_PutFile.pred (x0 x1 : ByteArray) (gf : Nat) (p0 p1 : ByteArray) (w : World) (hb : w.heap[gf]? = some (.cells #[.string p0, .string p1] 31 (0, 0))) :
  Calls Tryd.prog 60 #[.agg #[.string x0, .string x1], .pointer (some ⟨gf, 0, none⟩)] w fun e w' => e = .returned (.bool (x0.toList == p0.toList)) ∧ Below w.heap.size w w' := by
 have hl : gf < w.heap.size := blk_lt hb
 have hne : gf ≠ w.heap.size := by omega
 have hc : w.cell? ⟨gf, 0, none⟩ = some (.string p0) := (blk_cell hb 0).trans rfl
 clear hb
 go_enter Tryd.func60, Tryd.ntmps60
 go_wp2
 go_ret
 exact ⟨rfl, below_alloc (Below.refl _ _) _⟩
def impl_PutFile.idx {α : Type} (p : α → Bool) : List α → Nat → Int
 | [], _ => -1
 | x :: l, i => if p x = true then (i : Int) else impl_PutFile.idx p l (i + 1)
set_option maxHeartbeats 2000000 in
set_option maxRecDepth 100000 in
theorem impl_PutFile.index (gf : Nat) (p0 p1 : ByteArray) (A0 : Option Addr) (c0 : Nat) (l0 : List S31) (r : Int) (w : World) (a0 : Kd.C k31 w A0 l0.length l0) (a1 : l0.length ≤ c0) (hbf : w.heap[gf]? = some (.cells #[.string p0, .string p1] 31 (0, 0))) (h : impl_PutFile.idx (fun x : S31 => x.f0.toList == p0.toList) l0 0 = r) :
  Calls Tryd.prog 101 #[.slice A0 l0.length c0, .func (.func 60) #[] #[.pointer (some ⟨gf, 0, none⟩)]] w fun e w' => e = .returned (.int .i64 r) ∧ Below w.heap.size w w' := by
 have hmax : l0.length ≤ 9223372036854775807 := a0.2.1
 have a2 := zA a0
 have BF := zA hbf
 have HM := zA hmax
 have H0 := zA h
 clear a0 a1 hbf h
 go_enter Tryd.func101, Tryd.ntmps101
 go_wp2
 go_loopg [5, 8] l0.length (fun gg _ s8 wr => ∃ kk : Nat, kk ≤ l0.length ∧ l0.length - kk ≤ gg ∧ s8 = .int .i64 kk ∧ Aside0 (Below w.heap.size w wr) ∧ Aside0 (impl_PutFile.idx (fun x : S31 => x.f0.toList == p0.toList) (l0.drop kk) kk = r))
 case atStart => exact ⟨0, Nat.zero_le _, by omega, rfl, ⟨Below.refl _ w⟩, H0⟩
 case round =>
  obtain ⟨kk, hkk, hg, rfl, BW, HA⟩ := hrel
  by_cases hlt : kk < l0.length
  ·have hltz : (kk : Int) < (l0.length : Int) := by omega
   have h0z : (0 : Int) ≤ (kk : Int) := by omega
   obtain ⟨ad, e', a3, a4⟩ := at_T31 (Kd.C_below a2.out BW.out) (kk : Int) h0z hltz
   cases e'
   rw [Int.toNat_natCast] at a3 a4
   have hget : rd_T31 l0 (kk : Int) = l0[kk] := by
    unfold rd_T31; rw [List.getD_eq_getElem?_getD, Int.toNat_natCast, List.getElem?_eq_getElem hlt]
    rfl
   have H := HA.out; rw [List.drop_eq_getElem_cons hlt, ← hget] at H; unfold impl_PutFile.idx at H; have HG := zA hget; clear hget HA
   cases hb : ((rd_T31 l0 (kk : Int)).f0.toList == p0.toList) with
   | true =>
    rw [hb] at H; simp only [if_true] at H; subst H; have HB := zA hb; clear hb
    go_wp2_with (go_at_call 60; refine (impl_PutFile.pred _ _ gf p0 p1 _ (blk_below BF.out BW.out)).mono ?_; rw [HB.out]; rintro e w' ⟨rfl, hb'⟩)
    go_ret
    exact ⟨rfl, below_step BW.out hb'⟩
   | false =>
    rw [hb] at H; simp only [Bool.false_eq_true, if_false] at H; have HN := zA H; have HB := zA hb; clear H hb
    go_wp2_with (go_at_call 60; refine (impl_PutFile.pred _ _ gf p0 p1 _ (blk_below BF.out BW.out)).mono ?_; rw [HB.out]; rintro e w' ⟨rfl, hb'⟩)
    go_roundg (l0.length - (kk + 1))
    case measure => omega
    case rel => exact ⟨kk + 1, by omega, by omega, by go_num, ⟨below_step BW.out hb'⟩, HN⟩
  have hltz : ¬ (kk : Int) < (l0.length : Int) := by omega
  have H := HA.out; rw [List.drop_eq_nil_of_le (by omega)] at H; simp only [impl_PutFile.idx] at H; subst H
  go_wp2
  go_ret
  exact ⟨rfl, BW.out⟩
theorem impl_PutFile.idx_spec {α : Type} (p : α → Bool) : ∀ (l : List α) (i : Nat), (impl_PutFile.idx p l i = -1 ∧ l.filter (fun x => !p x) = l) ∨ ∃ k, ∃ h : k < l.length, impl_PutFile.idx p l i = ((i + k : Nat) : Int) ∧ p l[k] = true ∧ (l.take k).filter (fun x => !p x) = l.take k
 | [], i => .inl ⟨rfl, rfl⟩
 | x :: l, i => by
  unfold impl_PutFile.idx
  cases hp : p x with
  | true => exact .inr ⟨0, by simp, by simp, by simpa using hp, by simp⟩
  | false =>
   simp only [Bool.false_eq_true, if_false]
   rcases impl_PutFile.idx_spec p l (i + 1) with ⟨h1, h2⟩ | ⟨k, hk, h1, h2, h3⟩
   ·exact .inl ⟨h1, by simp [hp, h2]⟩
   ·exact .inr ⟨k + 1, by simpa using hk, by rw [h1]; congr 1; omega, by simpa using h2, by simp [hp, h3]⟩
/-- Where the loop stands: what is kept lies ahead, what is not looked at yet lies where it lay. -/
def impl_PutFile.Inv (p : S31 → Bool) (l L : List S31) (i j : Nat) : Prop := i < j ∧ j ≤ l.length ∧ L.length = l.length ∧ L.take i = (l.take j).filter (fun x => !p x) ∧ L.drop j = l.drop j
theorem impl_PutFile.Inv.start {p : S31 → Bool} {l : List S31} {k : Nat} (h : k < l.length) (hp : p l[k] = true) (hf : (l.take k).filter (fun x => !p x) = l.take k) : impl_PutFile.Inv p l l k (k + 1) :=
 ⟨by omega, by omega, rfl, by rw [List.take_add_one, List.getElem?_eq_getElem h, List.filter_append, hf]; simp [hp], rfl⟩
theorem impl_PutFile.Inv.skip {p : S31 → Bool} {l L : List S31} {i j : Nat} (h : impl_PutFile.Inv p l L i j) (hj : j < l.length) (hp : p l[j] = true) : impl_PutFile.Inv p l L i (j + 1) := by
 obtain ⟨h1, h2, h3, h4, h5⟩ := h
 refine ⟨by omega, by omega, h3, ?_, ?_⟩
 ·rw [List.take_add_one, List.getElem?_eq_getElem hj, List.filter_append, h4]
  simp [hp]
 ·rw [← List.drop_drop, h5, List.drop_drop]
theorem impl_PutFile.Inv.keep {p : S31 → Bool} {l L : List S31} {i j : Nat} (h : impl_PutFile.Inv p l L i j) (hj : j < l.length) (hp : p l[j] = false) : impl_PutFile.Inv p l (L.set i l[j]) (i + 1) (j + 1) := by
 obtain ⟨h1, h2, h3, h4, h5⟩ := h
 refine ⟨by omega, by omega, by rw [List.length_set, h3], ?_, ?_⟩
 ·rw [List.take_add_one, List.take_add_one, List.getElem?_eq_getElem hj, List.filter_append, ← h4, List.getElem?_set_self (by omega), List.take_set_of_le (Nat.le_refl _)]
  simp [hp]
 ·rw [List.drop_set_of_lt (by omega), ← List.drop_drop, h5, List.drop_drop]
theorem impl_PutFile.Inv.get {p : S31 → Bool} {l L : List S31} {i j : Nat} (h : impl_PutFile.Inv p l L i j) (hj : j < l.length) : rd_T31 L (j : Int) = l[j] := by
 obtain ⟨h1, h2, h3, h4, h5⟩ := h
 have hL : j < L.length := by omega
 have e : (L.drop j)[0]? = (l.drop j)[0]? := by rw [h5]
 rw [List.getElem?_drop, List.getElem?_drop, Nat.add_zero, List.getElem?_eq_getElem hL, List.getElem?_eq_getElem hj] at e
 unfold rd_T31
 rw [List.getD_eq_getElem?_getD, Int.toNat_natCast, List.getElem?_eq_getElem hL]
 exact Option.some.inj e
theorem impl_PutFile.Inv.done {p : S31 → Bool} {l L : List S31} {i : Nat} (h : impl_PutFile.Inv p l L i l.length) : L.take i = l.filter (fun x => !p x) ∧ i < l.length := by
 obtain ⟨h1, h2, h3, h4, h5⟩ := h
 exact ⟨by rw [h4, List.take_length], h1⟩
set_option maxHeartbeats 4000000 in
set_option maxRecDepth 1000000 in
theorem impl_PutFile.delete (gf : Nat) (p0 p1 : ByteArray) (g n c : Nat) (l : List S31) (base : Nat) (ok : Nat → Prop) (w : World) (HR : Kd.R k31 31 w base ok (.slice (some ⟨g, 0, none⟩) n c) l) (hbf : w.heap[gf]? = some (.cells #[.string p0, .string p1] 31 (0, 0))) (hne : gf ≠ g) :
  Calls Tryd.prog 58 #[.slice (some ⟨g, 0, none⟩) n c, .func (.func 60) #[] #[.pointer (some ⟨gf, 0, none⟩)]] w fun e w' => ∃ m, e = .returned (.slice (some ⟨g, 0, none⟩) m c) ∧ Kd.R k31 31 w' base ok (.slice (some ⟨g, 0, none⟩) m c) (l.filter (fun x : S31 => !(x.f0.toList == p0.toList))) ∧ w.grownBy w' (some g) := by
 obtain ⟨i0, b4, a0, a1, b6⟩ := info_parts info31
 have b5 := Tryd.underlying27
 have b7 := Tryd.underlying31
 obtain ⟨cur, hcur, hcs, hnc, hcm, hn, hbg, hok, htk⟩ := impl_PutFile.row_open HR
 subst hn
 have hcm : c ≤ 9223372036854775807 := by unfold maxLen at hcm; omega
 have mixed : Tryd.prog.follows .mixedOrders = true := by kernel_rfl
 obtain ⟨_, _, hC⟩ := Kd.R_reads' HR
 obtain ⟨r, hr⟩ : ∃ r, impl_PutFile.idx (fun x : S31 => x.f0.toList == p0.toList) l 0 = r := ⟨_, rfl⟩
 have HX := zA (impl_PutFile.index gf p0 p1 (some ⟨g, 0, none⟩) c l r w hC hnc hbf hr)
 have HO := zA HR
 have BF := zA hbf
 rcases impl_PutFile.idx_spec (fun x : S31 => x.f0.toList == p0.toList) l 0 with ⟨h1, h2⟩ | ⟨k, hk, h1, h2, h3⟩
 ·rw [h1] at hr; subst hr; have H2 := zA h2; clear HR hbf hcur hcs htk hC h1 h2
  go_enter Tryd.func58, Tryd.ntmps58
  go_wp2_with (go_at_call 101; refine HX.out.mono ?_; rintro e w' ⟨rfl, hb'⟩)
  go_ret
  refine ⟨_, rfl, ?_, impl_PutFile.grown ⟨rfl, rfl, rfl, Nat.le_refl _, fun _ _ _ => rfl⟩ hb'⟩
  rw [H2.out]
  exact Kd.R_below HO.out hb'
 ·rw [h1, Nat.zero_add] at hr; subst hr; have hkm : ((k : Int) == -1) = false := beq_eq_false_iff_ne.2 (by omega); have I0 := zA (impl_PutFile.Inv.start hk h2 h3); clear HR hbf hcur hcs htk hC h1 h2 h3; have GS := zA (show w.grownBy w (some g) from ⟨rfl, rfl, rfl, Nat.le_refl _, fun _ _ _ => rfl⟩)
  go_enter Tryd.func58, Tryd.ntmps58
  go_wp2_with (go_at_call 101; refine HX.out.mono ?_; rintro e w2 ⟨rfl, hb'⟩; replace HO := zA (Kd.R_below HO.out hb'); replace GS := zA (impl_PutFile.grown GS.out hb'); clear hb')
  go_loopg [5, 6, 7] l.length (fun gg s5 s6 _ wr => ∃ (i j : Nat) (L : List S31), s5 = .int .i64 i ∧ s6 = .int .i64 j ∧ j ≤ l.length ∧ l.length - j ≤ gg ∧ Aside0 (impl_PutFile.Inv (fun x : S31 => x.f0.toList == p0.toList) l L i j) ∧ Aside0 (Kd.R k31 31 wr base ok (.slice (some ⟨g, 0, none⟩) l.length c) L) ∧ Aside0 (w.grownBy wr (some g)))
  case atStart => exact ⟨k, k + 1, l, rfl, by go_num, by omega, by omega, I0, HO, GS⟩
  case round =>
   clear HO GS I0; obtain ⟨i, j, L, rfl, rfl, hjl, hgg, IV, HO, GS⟩ := hrel
   by_cases hlt : j < l.length
   ·have hltz : (j : Int) < (l.length : Int) := by omega
    have h0z : (0 : Int) ≤ (j : Int) := by omega
    have hij : i < j := IV.out.1
    have hi0z : (0 : Int) ≤ (i : Int) := by omega
    have hiz : (i : Int) < (l.length : Int) := by omega
    obtain ⟨hLl, _, hC⟩ := Kd.R_reads' HO.out; rw [hLl] at hltz; obtain ⟨ad, e', a2, a3⟩ := at_T31 hC (j : Int) h0z hltz; rw [← hLl] at hltz
    cases e'
    rw [IV.out.get hlt, Int.toNat_natCast] at a2 a3
    simp only [Addr.add_lit, Nat.zero_add] at a2 a3
    obtain ⟨u, hu⟩ : ∃ u, u = l[j] := ⟨_, rfl⟩; rw [← hu] at a2 a3; have HU := zA hu; have BW := zA (blk_grown BF.out GS.out (by intro e; injection e with e; exact hne e)); have GGE := zA GS.out.size; obtain ⟨ci, hci, hmi, hcc, hfi⟩ := Kd.R_elem HO.out u (i : Int) hi0z hiz; obtain ⟨C0, a4⟩ : ∃ C0 : S31, C0 = L.getD (i : Int).toNat u := ⟨_, rfl⟩; rw [← a4] at hmi; obtain rfl := k31_openM hmi; have HCI := zA (And.intro a4 hcc); have a8 := zA (show wr.cell? ⟨g, i * 2, none⟩ = some (.string C0.f0) from hcc 0 _ rfl); have a9 := zA (show wr.cell? ⟨g, i * 2 + 1, none⟩ = some (.string C0.f1) from hcc 1 _ rfl); obtain ⟨curR, hcurR, -⟩ := impl_PutFile.row_open HO.out; have BR := zA hcurR; clear hcurR; clear hu hLl hC hci hmi hcc hfi a4; have HB := zA (Below.refl wr.heap.size wr)
    cases hp : (u.f0.toList == p0.toList) with
    | true =>
     have HQ := zA hp; clear hp
     go_wp2_with (first
      | ((with_reducible refine zd 7 ?_); refine ze 7 31 #[.string ⟨#[]⟩, .string ⟨#[]⟩] ?_; intro gb hg w5 hbox hb; have GB := zA (show wr.heap.size ≤ gb by rw [hg]; exact Nat.le_refl _); have BX := zA hbox; replace HB := zA (below_step HB.out hb); clear hb hbox hg; have a0 := (blk_cell BX.out 0).trans rfl; have a1 := (blk_cell BX.out 1).trans rfl; have a5 := blk_frozen BX.out 0; have a6 := blk_frozen BX.out 1)
      | ((with_reducible refine gate_store (t := 31) (p := 7) rfl ?_); refine store_event (t := 31) (p := 7) (v := ?vo_a) (w1 := ((w5.setCell ⟨gb, 0, none⟩ (.string u.f0)).setCell ⟨gb, 1, none⟩ (.string u.f1))) ?hg ?ho ?hn ?hr ?_; (case ho => rfl); (case hg => rfl); (case hn => rfl); (case hr => first | (go_simp; done) | (go_simp; rfl)); intro w6 hw; replace BX := zA (show w6.heap[gb]? = some (.cells #[.string u.f0, .string u.f1] 31 (0, 0)) by rw [hw]; exact blk_put (cs := #[.string u.f0, .string ⟨#[]⟩]) (blk_put (cs := #[.string ⟨#[]⟩, .string ⟨#[]⟩]) BX.out 0 _ rfl) 1 _ rfl); replace HB := zA (show Below wr.heap.size wr w6 by rw [hw]; exact below_set (below_set HB.out GB.out) GB.out); clear hw a0 a1 a5 a6; have a0 := (blk_cell BX.out 0).trans rfl; have a1 := (blk_cell BX.out 1).trans rfl)
      | (go_at_call 60; refine (impl_PutFile.pred _ _ gf p0 p1 _ (blk_below BW.out HB.out)).mono ?_; rw [HQ.out]; rintro e w8 ⟨rfl, hb⟩; replace HB := zA (below_step HB.out hb); replace BX := zA (blk_below BX.out hb); clear hb a0 a1; have a0 := (blk_cell BX.out 0).trans rfl; have a1 := (blk_cell BX.out 1).trans rfl))
     go_roundg (l.length - (j + 1))
     case measure => omega
     case rel => exact ⟨i, j + 1, L, rfl, by go_num, by omega, by omega, ⟨IV.out.skip hlt (by rw [← HU.out]; exact HQ.out)⟩, ⟨Kd.R_below HO.out HB.out⟩, ⟨impl_PutFile.grown GS.out HB.out⟩⟩
    | false =>
     have HQ := zA hp; clear hp
     go_wp2_with (first
      | ((with_reducible refine zd 7 ?_); refine ze 7 31 #[.string ⟨#[]⟩, .string ⟨#[]⟩] ?_; intro gb hg w5 hbox hb; have GB := zA (show wr.heap.size ≤ gb by rw [hg]; exact Nat.le_refl _); have BX := zA hbox; replace HB := zA (below_step HB.out hb); clear hb hbox hg; have a0 := (blk_cell BX.out 0).trans rfl; have a1 := (blk_cell BX.out 1).trans rfl; have a5 := blk_frozen BX.out 0; have a6 := blk_frozen BX.out 1)
      | ((with_reducible refine gate_store (t := 31) (p := 7) rfl ?_); refine store_event (t := 31) (p := 7) (v := ?vo_a) (w1 := ((w5.setCell ⟨gb, 0, none⟩ (.string u.f0)).setCell ⟨gb, 1, none⟩ (.string u.f1))) ?hg ?ho ?hn ?hr ?_; (case ho => rfl); (case hg => rfl); (case hn => rfl); (case hr => first | (go_simp; done) | (go_simp; rfl)); intro w6 hw; replace BX := zA (show w6.heap[gb]? = some (.cells #[.string u.f0, .string u.f1] 31 (0, 0)) by rw [hw]; exact blk_put (cs := #[.string u.f0, .string ⟨#[]⟩]) (blk_put (cs := #[.string ⟨#[]⟩, .string ⟨#[]⟩]) BX.out 0 _ rfl) 1 _ rfl); replace HB := zA (show Below wr.heap.size wr w6 by rw [hw]; exact below_set (below_set HB.out GB.out) GB.out); clear hw a0 a1 a5 a6; have a0 := (blk_cell BX.out 0).trans rfl; have a1 := (blk_cell BX.out 1).trans rfl)
      | (go_at_call 60; refine (impl_PutFile.pred _ _ gf p0 p1 _ (blk_below BW.out HB.out)).mono ?_; rw [HQ.out]; rintro e w8 ⟨rfl, hb⟩; replace HB := zA (below_step HB.out hb); replace BX := zA (blk_below BX.out hb); clear hb a0 a1; have a0 := (blk_cell BX.out 0).trans rfl; have a1 := (blk_cell BX.out 1).trans rfl; have b8 := (HB.out.cell (World.block_lt_of_cell? _ _ a8.out)).trans a8.out; have b9 := (HB.out.cell (World.block_lt_of_cell? _ _ a9.out)).trans a9.out; have c0 := blk_frozen (blk_below BR.out HB.out) (i * 2); have c1 := blk_frozen (blk_below BR.out HB.out) (i * 2 + 1))
      | ((with_reducible refine gate_store (t := 31) (p := 33) rfl ?_); have HP := Kd.R_seg (Kd.R_below HO.out HB.out) (i : Int) hi0z hiz (c := [.string C0.f0, .string C0.f1]) (seg := [.string u.f0, .string u.f1]) (j := 0) rfl (fun j_ u_ hj_ => (HB.out.cell (World.block_lt_of_cell? _ _ (HCI.out.2 j_ u_ hj_))).trans (HCI.out.2 j_ u_ hj_)) (by exact Nat.le_refl _) (x' := u) (k31_mkM _ _ (fun k => ok k ∧ k ≠ g) _) (fun _ hk => hk); refine store_event (t := 31) (p := 33) (v := ?vo_b) (w1 := ((w8.setCell ⟨g, i * 2, none⟩ (.string u.f0)).setCell ⟨g, i * 2 + 1, none⟩ (.string u.f1))) ?hg ?ho ?hn ?hr ?_; (case ho => rfl); (case hg => rfl); (case hn => rfl); (case hr => first | (go_simp; done) | (go_simp; rfl)); intro w9 hw; replace HO := zA (show Kd.R k31 31 w9 base ok (.slice (some ⟨g, 0, none⟩) l.length c) (L.set i u) by rw [hw]; exact HP.1); replace GS := zA (show w.grownBy w9 (some g) by rw [hw]; exact impl_PutFile.grown2 (impl_PutFile.grown GS.out HB.out) HP.2); clear HP hw))
     go_roundg (l.length - (j + 1))
     case measure => omega
     case rel => exact ⟨i + 1, j + 1, L.set i u, by go_num, by go_num, by omega, by omega, ⟨by rw [HU.out]; exact IV.out.keep hlt (by rw [← HU.out]; exact HQ.out)⟩, HO, GS⟩
   obtain rfl : j = l.length := by omega
   have hltz : ¬ (l.length : Int) < (l.length : Int) := by omega
   obtain ⟨hT, hi⟩ := IV.out.done; have hij : i < l.length := hi
   have hic : ¬ c = i := by omega
   have hi0z : (0 : Int) ≤ (i : Int) := by omega
   have hile : (i : Int) ≤ (l.length : Int) := by omega
   have hilc : (i : Int) ≤ (c : Int) := by omega
   obtain ⟨cu, hcu, hcz, -, b0, -, b1, b2, b3⟩ := impl_PutFile.row_open HO.out; obtain ⟨W2, a7⟩ : ∃ W2, W2 = wr.setRow g (cu.toList.take (i * 2) ++ impl_PutFile.fl (List.replicate (l.length - i) ⟨⟨#[]⟩, ⟨#[]⟩⟩) ++ cu.toList.drop (i * 2 + (l.length - i) * 2)).toArray := ⟨_, rfl⟩
   have hcl : ∀ ty, (Builtin.clear_ #[27] ty #[.slice (some ⟨g, i * 2, none⟩) (l.length - i) (c - i)]).run Tryd.prog wr = .ok (.tuple #[]) W2 := fun ty => by
    rw [a7]
    exact impl_PutFile.run_clear Tryd.prog wr 27 31 ty b5 (fun W => by simp [zeroValue, typeInfo, b4, a0]) g (i * 2) (l.length - i) (c - i) cu 31 hcu (by omega)
   have HF := zA (show Kd.R k31 31 W2 base ok (.slice (some ⟨g, 0, none⟩) i c) (l.filter (fun x : S31 => !(x.f0.toList == p0.toList))) ∧ w.grownBy W2 (some g) by
    rw [a7, ← hT]
    refine ⟨impl_PutFile.row_mk (setRow_heap wr g cu _ 31 (0, 0) hcu) ?_ (by omega) b0 (by rw [List.length_take]; have := IV.out.2.2.1; omega) b1 b2 ?_, impl_PutFile.grown2 GS.out (impl_PutFile.grown_setRow _ _ _)⟩
    ·simp only [List.size_toArray, List.length_append, List.length_take, List.length_drop, impl_PutFile.fl_length, List.length_replicate, Array.length_toList]
     omega
    ·rw [List.append_assoc, List.take_append_of_le_length (by rw [List.length_take, Array.length_toList]; omega), List.take_take, Nat.min_self, ← impl_PutFile.fl_take, ← b3, List.take_take, Nat.min_eq_left (by omega)])
   clear hcu hcz b0 b1 b2 b3 a7 hT hi
   go_wp2
   all_goals go_ret
   exact ⟨i, rfl, HF.out.1, HF.out.2⟩
theorem impl_PutFile.step_run {P : Program} {ops : Array Oper} {o : Oper} {a : Act} {w w' : World} {v' : Value} {K : Act → World → Prop} {Q : Exit → Act → World → Prop} {E : Prop} (hg : o.guard = none) (hr : (execOp a.eval o).run P w = .ok (.value v') w') (hK : K (a.put o.dst v') w') : if Region.wanted o (yielded ops a.tmps) = true then Oper.wp P o a w K Q else E := by
 have hw : Region.wanted o (yielded ops a.tmps) = true := by simp [Region.wanted, hg]
 rw [if_pos hw]
 unfold Oper.wp
 rw [hr]
 exact hK
theorem impl_PutFile.one {w : World} {vb : Nat} {x : S31} (hv : w.heap[vb]? = some (.cells #[.string x.f0, .string x.f1] 31 (0, 0))) : Kd.C k31 w (some ⟨vb, 0, none⟩) 1 [x] :=
 (Kd.R_reads' (impl_PutFile.row_mk (base := 0) (ok := fun _ => True) (n := 1) (c := 1) hv rfl (Nat.le_refl _) (by unfold maxLen; omega) rfl (Nat.zero_le _) trivial (by simp [impl_PutFile.fl]))).2.2
set_option maxHeartbeats 4000000 in
set_option maxRecDepth 1000000 in
theorem impl_PutFile.ins_end (A : Option Addr) (c : Nat) (l : List S31) (x : S31) (vb base : Nat) (ok : Nat → Prop) (w : World) (HR : Kd.R k31 31 w base ok (.slice A l.length c) l) (hv : w.heap[vb]? = some (.cells #[.string x.f0, .string x.f1] 31 (0, 0))) (hf : ∀ k, w.heap.size ≤ k → ok k) (hb : base ≤ w.heap.size) (hl : l.length + 1 ≤ 4398046511104) :
  Calls Tryd.prog 61 #[.slice A l.length c, .int .i64 (l.length : Int), .slice (some ⟨vb, 0, none⟩) 1 1] w fun e w' => ∃ v1, e = .returned v1 ∧ Kd.R k31 31 w' base ok v1 (l ++ [x]) ∧ w.grownBy w' (Value.slice A l.length c).ownBlock := by
 have hnc := (Kd.R_reads' HR).2.1
 have hlc : (l.length : Int) ≤ (c : Int) := by omega
 have mixed : Tryd.prog.follows .mixedOrders = true := by kernel_rfl
 have HO := zA HR
 have HV := zA (impl_PutFile.one hv)
 have HF := zA hf
 have HBB := zA hb
 have HL := zA hl
 have a2 : l.length ≤ 9223372036854775807 := by omega
 clear HR hv hf hb hl
 rcases Nat.lt_or_ge l.length c with hci | hci
 ·have hcl : ¬ c = l.length := by omega
  go_enter Tryd.func61, Tryd.ntmps61
  go_wp2_with ((with_reducible refine gate_builtin (b := .append) (xs := #[.tmp 23, .tmp 24]) rfl ?_); at_builtin; refine Kd.R_append_rows k31 (w0 := w) base rfl (.tmp 23) (.tmp 24) 27 31 (.agg #[(.string ⟨#[]⟩), (.string ⟨#[]⟩)]) 32 rfl Tryd.underlying27 info31 rfl (by decide) (by omega) _ l [x] _ _ _ ok (fun _ => False) rfl rfl HO.out HV.out (fun x_ cs_ h_ => h_) (fun _ h_ => h_.elim) HF.out (Below.refl _ _) HBB.out (by have := HL.out; omega) ?_; intro v1 w1 h1 _ hg _; have a0 := zA h1; have a1 := zA hg; clear h1 hg)
  go_ret
  exact ⟨v1, rfl, a0.out, a1.out⟩
 ·obtain rfl : c = l.length := by omega
  clear hci hnc hlc
  go_enter Tryd.func61, Tryd.ntmps61
  go_wp2_with ((with_reducible refine gate_builtin (b := .append) (xs := #[.tmp 23, .tmp 24]) rfl ?_); at_builtin; refine Kd.R_append_rows k31 (w0 := w) base rfl (.tmp 23) (.tmp 24) 27 31 (.agg #[(.string ⟨#[]⟩), (.string ⟨#[]⟩)]) 32 rfl Tryd.underlying27 info31 rfl (by decide) (by omega) _ l [x] _ _ _ ok (fun _ => False) rfl rfl HO.out HV.out (fun x_ cs_ h_ => h_) (fun _ h_ => h_.elim) HF.out (Below.refl _ _) HBB.out (by have := HL.out; omega) ?_; intro v1 w1 h1 _ hg _; have a0 := zA h1; have a1 := zA hg; clear h1 hg)
  go_ret
  exact ⟨v1, rfl, a0.out, a1.out⟩
theorem impl_PutFile.cell_of {w : World} {g : Nat} {cur : Array Value} {vs : List Value} {o : Nat} (h : w.heap[g]? = some (.cells cur 31 (0, 0))) (hv : ∀ j v, vs[j]? = some v → cur.toList[o + j]? = some v) (j : Nat) (v : Value) (hj : vs[j]? = some v) : w.cell? ((⟨g, o, none⟩ : Addr).add j) = some v := by
 rw [Addr.add_lit, blk_cell h]
 have := hv j v hj
 simpa using this
set_option maxHeartbeats 4000000 in
set_option maxRecDepth 1000000 in
theorem impl_PutFile.ins_room (g n c i : Nat) (l : List S31) (x : S31) (vb base : Nat) (ok : Nat → Prop) (w : World) (HR : Kd.R k31 31 w base ok (.slice (some ⟨g, 0, none⟩) n c) l) (hi : i < n) (hc : n + 1 ≤ c) (hv : w.heap[vb]? = some (.cells #[.string x.f0, .string x.f1] 31 (0, 0))) (hne : vb ≠ g) :
  Calls Tryd.prog 61 #[.slice (some ⟨g, 0, none⟩) n c, .int .i64 (i : Int), .slice (some ⟨vb, 0, none⟩) 1 1] w fun e w' => e = .returned (.slice (some ⟨g, 0, none⟩) (n + 1) c) ∧ Kd.R k31 31 w' base ok (.slice (some ⟨g, 0, none⟩) (n + 1) c) (l.take i ++ [x] ++ l.drop i) ∧ w.grownBy w' (some g) := by
 obtain ⟨i0, a6, b5, a7, b6⟩ := info_parts info31
 have a3 := Tryd.underlying27
 obtain ⟨cur, hcur, hcs, hnc, hcm, hn, hbg, hok, htk⟩ := impl_PutFile.row_open HR
 have b7 : c ≤ 9223372036854775807 := by unfold maxLen at hcm; omega
 have mixed : Tryd.prog.follows .mixedOrders = true := by kernel_rfl
 have hsz : (Tryd.prog.info? 31).map (·.size) = some 2 := by rw [a6]; simp [a7]
 have hov : ∀ lb cb (W : World), W.heap[g]? = some (.cells cur 31 (0, 0)) → W.heap[vb]? = some (.cells #[.string x.f0, .string x.f1] 31 (0, 0)) → (callFunc 102 #[.slice (some ⟨vb, 0, none⟩) 1 1, .slice (some ⟨g, (i + 1) * 2, none⟩) lb cb]).run Tryd.prog W = .ok (.value (.bool false)) W := fun lb cb W hg hv => by
  rw [run_callFunc_extern Tryd.func102 (by kernel_rfl) (by kernel_rfl) (by kernel_rfl) (e := Extern.SlicesOverlaps.overlaps #[27, 27] #[4]) (by kernel_rfl),
   Lib.run_overlaps_apart W 27 4 31 a3 2 (fun W' => by simp [sizeOf, typeInfo, a6, a7]) ⟨vb, 0, none⟩ ⟨g, (i + 1) * 2, none⟩ 1 1 lb cb hne 31 31 2 cur.size (by unfold World.shape?; simp only [hv]; rfl) (by unfold World.shape?; simp only [hg]) (by omega) (blk_frozen hv 0) (blk_frozen hv 2)]
  rfl
 have hhead : ∀ j v, (impl_PutFile.fl (l.drop i))[j]? = some v → cur.toList[i * 2 + j]? = some v := fun j v hj => by
  have hlt : j < (impl_PutFile.fl (l.drop i)).length := (List.getElem?_eq_some_iff.1 hj).1; rw [impl_PutFile.fl_length, List.length_drop] at hlt; rw [← impl_PutFile.fl_drop, ← htk, List.getElem?_drop, List.getElem?_take_of_lt (by omega)] at hj
  exact hj
 have hdl : (impl_PutFile.fl (l.drop i)).length = (n - i) * 2 := by rw [impl_PutFile.fl_length, List.length_drop, hn]
 obtain ⟨W1, a1⟩ : ∃ W1, W1 = w.drew.setRow g (cur.toList.take ((i + 1) * 2) ++ impl_PutFile.fl (l.drop i) ++ cur.toList.drop ((i + 1) * 2 + (impl_PutFile.fl (l.drop i)).length)).toArray := ⟨_, rfl⟩
 have a8 : ∀ ty dc sc, (Builtin.copy_ #[27, 27] ty #[.slice (some ⟨g, (i + 1) * 2, none⟩) (n - i) dc, .slice (some ⟨g, i * 2, none⟩) (n + 1 - i) sc]).run Tryd.prog w.drew = .ok (goInt (Nat.min (n + 1 - i) (n - i))) W1 := fun ty dc sc => by
  rw [a1]
  exact impl_PutFile.run_copy w.drew 27 27 ty 31 g ((i + 1) * 2) (n - i) dc ⟨g, i * 2, none⟩ (n + 1 - i) sc cur 31 (impl_PutFile.fl (l.drop i)) a3 hsz (blk_drew hcur) (by rw [hdl]; simp only [Nat.min_def]; split <;> omega) (impl_PutFile.cell_of (blk_drew hcur) hhead) (by rw [hdl]; omega) (fun v hv => impl_PutFile.fl_one hv)
 obtain ⟨a0, a2⟩ : ∃ a0, a0 = (cur.toList.take ((i + 1) * 2) ++ impl_PutFile.fl (l.drop i) ++ cur.toList.drop ((i + 1) * 2 + (impl_PutFile.fl (l.drop i)).length)).toArray := ⟨_, rfl⟩
 have a4 : W1.heap[g]? = some (.cells a0 31 (0, 0)) := by rw [a1, a2]; exact setRow_heap _ g cur _ 31 (0, 0) (blk_drew hcur)
 have a9 : W1.heap[vb]? = some (.cells #[.string x.f0, .string x.f1] 31 (0, 0)) := by rw [a1, setRow_other _ _ _ _ hne]; exact blk_drew hv
 have a5 : a0.size = c * 2 := by
  rw [a2]
  simp only [List.size_toArray, List.length_append, List.length_take, List.length_drop, hdl, Array.length_toList]
  omega
 obtain ⟨W2, b2⟩ : ∃ W2, W2 = W1.setRow g (a0.toList.take (i * 2) ++ impl_PutFile.fl [x] ++ a0.toList.drop (i * 2 + (impl_PutFile.fl [x]).length)).toArray := ⟨_, rfl⟩
 have b0 : ∀ (W : World), W.heap = W1.heap → ∀ ty dc, (Builtin.copy_ #[27, 27] ty #[.slice (some ⟨g, i * 2, none⟩) (n + 1 - i) dc, .slice (some ⟨vb, 0, none⟩) 1 1]).run Tryd.prog W = .ok (goInt (Nat.min 1 (n + 1 - i))) (W.setRow g (a0.toList.take (i * 2) ++ impl_PutFile.fl [x] ++ a0.toList.drop (i * 2 + (impl_PutFile.fl [x]).length)).toArray) := fun W hW ty dc =>
  impl_PutFile.run_copy W 27 27 ty 31 g (i * 2) (n + 1 - i) dc ⟨vb, 0, none⟩ 1 1 a0 31 (impl_PutFile.fl [x]) a3 hsz (by rw [hW]; exact a4) (by simp only [impl_PutFile.fl_length, List.length_singleton, Nat.min_def]; split <;> omega)
   (impl_PutFile.cell_of (cur := #[.string x.f0, .string x.f1]) (by rw [hW]; exact a9) (fun j v hj => by rw [Nat.zero_add]; simpa [impl_PutFile.fl] using hj)) (by rw [impl_PutFile.fl_length, a5]; simp; omega) (fun v hv => impl_PutFile.fl_one hv)
 have hlen : (l.take i).length = i := by rw [List.length_take]; omega
 have HF := zA (fun (W : World) (hW : W.heap = W1.heap) (hos : W.os = w.os) (hta : W.tape = w.tape) (hou : W.output = w.output) => (show Kd.R k31 31 (W.setRow g (a0.toList.take (i * 2) ++ impl_PutFile.fl [x] ++ a0.toList.drop (i * 2 + (impl_PutFile.fl [x]).length)).toArray) base ok (.slice (some ⟨g, 0, none⟩) (n + 1) c) (l.take i ++ [x] ++ l.drop i) ∧ w.grownBy (W.setRow g (a0.toList.take (i * 2) ++ impl_PutFile.fl [x] ++ a0.toList.drop (i * 2 + (impl_PutFile.fl [x]).length)).toArray) (some g) from by
  refine ⟨impl_PutFile.row_mk (setRow_heap W g a0 _ 31 (0, 0) (by rw [hW]; exact a4)) ?_ (by omega) hcm ?_ hbg hok ?_, impl_PutFile.grown2 ⟨hos, hta, hou, ?_, fun k hk hne' => ?_⟩ (impl_PutFile.grown_setRow W g _)⟩
  ·simp only [List.size_toArray, List.length_append, List.length_take, List.length_drop, impl_PutFile.fl_length, Array.length_toList, a5, List.length_singleton]
   omega
  ·simp only [List.length_append, List.length_take, List.length_drop, List.length_singleton]
   omega
  ·have e1 : a0.toList.take (i * 2) = impl_PutFile.fl (l.take i) := by
    rw [a2]
    simp only [List.append_assoc]
    rw [List.take_append_of_le_length (by rw [List.length_take, Array.length_toList]; omega), List.take_take, Nat.min_eq_left (by omega), ← impl_PutFile.fl_take, ← htk, List.take_take, Nat.min_eq_left (by omega)]
   have e2 : (a0.toList.drop (i * 2 + (impl_PutFile.fl [x]).length)).take ((n - i) * 2) = impl_PutFile.fl (l.drop i) := by
    rw [a2]
    have e3 : i * 2 + (impl_PutFile.fl [x]).length = (cur.toList.take ((i + 1) * 2)).length := by rw [show (impl_PutFile.fl [x]).length = 2 from impl_PutFile.fl_length [x], List.length_take, Array.length_toList, Nat.min_eq_left (by omega)]; omega
    simp only [List.append_assoc]
    rw [e3, List.drop_left, List.take_append_of_le_length (by rw [hdl]; exact Nat.le_refl _), List.take_of_length_le (by rw [hdl]; exact Nat.le_refl _)]
   have e4 : (impl_PutFile.fl (l.take i) ++ impl_PutFile.fl [x]).length = (i + 1) * 2 := by rw [List.length_append, impl_PutFile.fl_length, impl_PutFile.fl_length, hlen, List.length_singleton]; omega
   rw [e1, impl_PutFile.fl_app, impl_PutFile.fl_app]
   show List.take ((n + 1) * 2) (impl_PutFile.fl (l.take i) ++ impl_PutFile.fl [x] ++ List.drop _ _) = _
   rw [List.take_append, e4, List.take_of_length_le (by rw [e4]; omega), show (n + 1) * 2 - (i + 1) * 2 = (n - i) * 2 by omega, e2]
  ·rw [hW, a1]; simp [World.setRow]
  ·rw [hW, a1, setRow_other _ _ _ _ (fun e => hne' (by rw [e]))]; rfl))
 have b3 := zA a8
 have b4 := zA (b0 W1 rfl 3 (c - i))
 have HOV := zA (hov (n - i) (c - (i + 1)) w hcur hv)
 have hW1' := zA a1
 have b8 : ¬ ((i : Int) = (n : Int)) := by omega
 have b9 : ¬ (c = i + 1) := by omega
 have c0 : ¬ (c = i) := by omega
 have hin : (i : Int) ≤ (n : Int) := by omega
 have c1 : (i : Int) ≤ (n : Int) + 1 := by omega
 have c2 : (i : Int) + 1 ≤ (n : Int) + 1 := by omega
 have c3 : (0 : Int) ≤ (i : Int) + 1 := by omega
 have c4 : IntKind.i64.wrap ((i : Int) + 1) = (i : Int) + 1 := by rw [IntKind.wrap_i64]; omega
 have c5 : IntKind.i64.wrap ((n : Int) + 1) = (n : Int) + 1 := by rw [IntKind.wrap_i64]; omega
 have c6 : ¬ ((c : Int) < (n : Int) + 1) := by omega
 have c7 : (n : Int) + 1 ≤ (c : Int) := by omega
 have htn : ((i : Int) + 1).toNat = i + 1 := by omega
 have c8 : ((n : Int) + 1).toNat = n + 1 := by omega
 clear HR hv hcur htk a4 a9 a1 b2 a2 a8 b0 hhead hdl hov hn a5 hlen hcs
 go_enter Tryd.func61, Tryd.ntmps61
 go_wp2_with (simp only [HOV.out])
 go_region_law_o (refine impl_PutFile.step_run (v' := goInt (Nat.min (n + 1 - i) (n - i))) (w' := W1) rfl (by have h1 := b3.out 3 (c - (i + 1)) (c - i); simp [execOp, resolve, invoke, builtin, Act.eval, Act.put, h1, Result.andThen]) ?_)
 go_wp2_with (simp only [b4.out])
 go_ret
 have b1 := HF.out W1 rfl (by rw [hW1'.out]; rfl) (by rw [hW1'.out]; rfl) (by rw [hW1'.out]; rfl)
 exact ⟨rfl, by simpa using b1.1, by simpa using b1.2⟩
set_option maxHeartbeats 4000000 in
set_option maxRecDepth 1000000 in
theorem impl_PutFile.ins_grow (g n c i : Nat) (l : List S31) (x : S31) (vb base : Nat) (ok : Nat → Prop) (w : World) (HR : Kd.R k31 31 w base ok (.slice (some ⟨g, 0, none⟩) n c) l) (hi : i < n) (hc : c < n + 1) (hv : w.heap[vb]? = some (.cells #[.string x.f0, .string x.f1] 31 (0, 0))) (hne : vb ≠ g) (hf : ∀ k, w.heap.size ≤ k → ok k) (hb : base ≤ w.heap.size) (hl : n + 1 ≤ 4398046511104) :
  Calls Tryd.prog 61 #[.slice (some ⟨g, 0, none⟩) n c, .int .i64 (i : Int), .slice (some ⟨vb, 0, none⟩) 1 1] w fun e w' => ∃ v1, e = .returned v1 ∧ Kd.R k31 31 w' base ok v1 (l.take i ++ [x] ++ l.drop i) ∧ w.grownBy w' (some g) := by
 obtain ⟨i0, b1, b6, a6, b2⟩ := info_parts info31
 have a7 := Tryd.underlying27
 have b7 := Tryd.underlying3
 obtain ⟨cur, hcur, hcs, hnc, hcm, hn, hbg, hok, htk⟩ := impl_PutFile.row_open HR
 have b9 : c ≤ 9223372036854775807 := by unfold maxLen at hcm; omega
 have mixed : Tryd.prog.follows .mixedOrders = true := by kernel_rfl
 have hsz : (Tryd.prog.info? 31).map (·.size) = some 2 := by rw [b1]; simp [a6]
 have hlen : (l.take i).length = i := by rw [List.length_take]; omega
 have hgl : g < w.heap.size := blk_lt hcur
 have hvl : vb < w.heap.size := blk_lt hv
 have a8 : ∀ j v, (impl_PutFile.fl l)[j]? = some v → cur.toList[j]? = some v := fun j v hj => by
  have hlt : j < (impl_PutFile.fl l).length := (List.getElem?_eq_some_iff.1 hj).1; rw [impl_PutFile.fl_length] at hlt; rw [← htk, List.getElem?_take_of_lt (by omega)] at hj
  exact hj
 have hold : (Builtin.firstCells i0.size i (.slice (some ⟨g, 0, none⟩) i c)).run Tryd.prog w.drew = .ok (impl_PutFile.fl (l.take i)).toArray w.drew := by
  rw [a6]
  refine run_firstCells_some w.drew 2 i ⟨g, 0, none⟩ i c (impl_PutFile.fl (l.take i)) (by rw [impl_PutFile.fl_length, hlen]) (fun j v hj => ?_)
  refine impl_PutFile.cell_of (cur := cur) (vs := impl_PutFile.fl (l.take i)) (blk_drew hcur) (fun j v hj => ?_) j v hj
  rw [Nat.zero_add]; rw [← impl_PutFile.fl_take, List.getElem?_take] at hj
  split at hj
  ·exact a8 j v hj
  ·cases hj
 obtain ⟨G, hG⟩ : ∃ G, G = grownCap w (n + 1) c 31 := ⟨_, rfl⟩
 have hGn : n + 1 ≤ G := by rw [hG]; exact grownCap_ge w _ _ _
 have hGm : G ≤ maxLen := by rw [hG]; exact grownCap_le_maxLen w (n + 1) c 31 (by unfold maxLen; omega)
 have c0 : G ≤ 9223372036854775807 := by unfold maxLen at hGm; omega
 obtain ⟨ROW, hROW⟩ : ∃ ROW, ROW = (impl_PutFile.fl (l.take i)).toArray ++ Builtin.zeroCells (Value.agg #[.string ⟨#[]⟩, .string ⟨#[]⟩]).cells (n + 1 - i) ++ Builtin.zeroCells (Value.agg #[.string ⟨#[]⟩, .string ⟨#[]⟩]).cells (G - (n + 1)) := ⟨_, rfl⟩
 have hRl : ROW.toList = impl_PutFile.fl (l.take i ++ List.replicate (n + 1 - i) ⟨⟨#[]⟩, ⟨#[]⟩⟩ ++ List.replicate (G - (n + 1)) ⟨⟨#[]⟩, ⟨#[]⟩⟩) := by
  rw [hROW, Array.toList_append, Array.toList_append, impl_PutFile.zeroCells, impl_PutFile.zeroCells, impl_PutFile.fl_app, impl_PutFile.fl_app]
 have hRs : ROW.size = G * 2 := by
  rw [← Array.length_toList, hRl, impl_PutFile.fl_length]
  simp only [List.length_append, hlen, List.length_replicate]
  omega
 have hrz : ∀ ty, (Builtin.append_ #[27, 3] ty #[.slice (some ⟨g, 0, none⟩) i c, .int .i64 ((n : Int) + 1 - (i : Int))]).run Tryd.prog w = .ok (.slice (some ⟨w.heap.size, 0, none⟩) (n + 1) G) (w.drew.alloc (.cells ROW 31)) := fun ty => by
  have := Lib.run_append_grow_zeros w 27 3 ty 31 i0 _ .i64 .i64 a7 b7 b1 b6 (some ⟨g, 0, none⟩) i c (impl_PutFile.fl (l.take i)) hold (n + 1 - i) (by omega) (by rw [a6]; omega) (by omega) (by omega) (by rw [b2]; omega) (by rw [b2, show i + (n + 1 - i) = n + 1 by omega]; exact growslice_fits hc (by omega))
  rw [show i + (n + 1 - i) = n + 1 by omega, ← hG, ← hROW, show ((n + 1 - i : Nat) : Int) = (n : Int) + 1 - (i : Int) by omega] at this
  exact this
 obtain ⟨N, hN⟩ : ∃ N, N = w.heap.size := ⟨_, rfl⟩
 have hgN : g ≠ N := by omega
 have hvN : vb ≠ N := by omega
 obtain ⟨W1, a0⟩ : ∃ W1, W1 = w.drew.alloc (.cells ROW 31) := ⟨_, rfl⟩
 have a9 : W1.heap[N]? = some (.cells ROW 31 (0, 0)) := by rw [a0, hN]; exact blk_new w.drew _
 have b3 : W1.heap[g]? = some (.cells cur 31 (0, 0)) := by rw [a0]; exact blk_alloc (blk_drew hcur) _
 have b4 : W1.heap[vb]? = some (.cells #[.string x.f0, .string x.f1] 31 (0, 0)) := by rw [a0]; exact blk_alloc (blk_drew hv) _
 obtain ⟨T1, a4⟩ : ∃ T1, T1 = (ROW.toList.take (i * 2) ++ impl_PutFile.fl [x] ++ ROW.toList.drop (i * 2 + (impl_PutFile.fl [x]).length)).toArray := ⟨_, rfl⟩
 have a3 : (impl_PutFile.fl [x]).length = 2 := impl_PutFile.fl_length [x]
 have hT1s : T1.size = G * 2 := by
  rw [a4]
  simp only [List.size_toArray, List.length_append, List.length_take, List.length_drop, a3, Array.length_toList, hRs]
  omega
 obtain ⟨W2, a1⟩ : ∃ W2, W2 = W1.setRow N T1 := ⟨_, rfl⟩
 have b0 : W2.heap[N]? = some (.cells T1 31 (0, 0)) := by rw [a1]; exact setRow_heap W1 N ROW _ 31 (0, 0) a9
 have b5 : W2.heap[g]? = some (.cells cur 31 (0, 0)) := by rw [a1, setRow_other _ _ _ _ hgN]; exact b3
 have hcpA : ∀ ty dc, (Builtin.copy_ #[27, 27] ty #[.slice (some ⟨N, i * 2, none⟩) (n + 1 - i) dc, .slice (some ⟨vb, 0, none⟩) 1 1]).run Tryd.prog W1 = .ok (goInt (Nat.min 1 (n + 1 - i))) W2 := fun ty dc => by
  rw [a1, a4]
  exact impl_PutFile.run_copy W1 27 27 ty 31 N (i * 2) (n + 1 - i) dc ⟨vb, 0, none⟩ 1 1 ROW 31 (impl_PutFile.fl [x]) a7 hsz a9 (by rw [a3]; simp only [Nat.min_def]; split <;> omega)
   (impl_PutFile.cell_of (cur := #[.string x.f0, .string x.f1]) b4 (fun j v hj => by rw [Nat.zero_add]; simpa [impl_PutFile.fl] using hj)) (by rw [a3, hRs]; omega) (fun v hv => impl_PutFile.fl_one hv)
 have hhead : ∀ j v, (impl_PutFile.fl (l.drop i))[j]? = some v → cur.toList[i * 2 + j]? = some v := fun j v hj => by
  rw [← impl_PutFile.fl_drop, List.getElem?_drop] at hj
  exact a8 _ v hj
 have hdl : (impl_PutFile.fl (l.drop i)).length = (n - i) * 2 := by rw [impl_PutFile.fl_length, List.length_drop, hn]
 obtain ⟨T2, a5⟩ : ∃ T2, T2 = (T1.toList.take ((i + 1) * 2) ++ impl_PutFile.fl (l.drop i) ++ T1.toList.drop ((i + 1) * 2 + (impl_PutFile.fl (l.drop i)).length)).toArray := ⟨_, rfl⟩
 obtain ⟨W3, a2⟩ : ∃ W3, W3 = W2.drew.setRow N T2 := ⟨_, rfl⟩
 have hcpB : ∀ ty dc sc, (Builtin.copy_ #[27, 27] ty #[.slice (some ⟨N, (i + 1) * 2, none⟩) (n - i) dc, .slice (some ⟨g, i * 2, none⟩) (n - i) sc]).run Tryd.prog W2.drew = .ok (goInt (Nat.min (n - i) (n - i))) W3 := fun ty dc sc => by
  rw [a2, a5]
  exact impl_PutFile.run_copy W2.drew 27 27 ty 31 N ((i + 1) * 2) (n - i) dc ⟨g, i * 2, none⟩ (n - i) sc T1 31 (impl_PutFile.fl (l.drop i)) a7 hsz (blk_drew b0) (by rw [hdl]; simp only [Nat.min_def]; split <;> omega) (impl_PutFile.cell_of (blk_drew b5) hhead) (by rw [hdl, hT1s]; omega) (fun v hv => impl_PutFile.fl_one hv)
 have HF := zA (show Kd.R k31 31 W3 base ok (.slice (some ⟨N, 0, none⟩) (n + 1) G) (l.take i ++ [x] ++ l.drop i) ∧ w.grownBy W3 (some g) from by
  refine ⟨impl_PutFile.row_mk (cur := T2) (by rw [a2]; exact setRow_heap W2.drew N T1 _ 31 (0, 0) (blk_drew b0)) ?_ hGn hGm ?_ (by rw [hN]; exact hb) (hf N (by omega)) ?_, ⟨?_, ?_, ?_, ?_, fun k hk hne' => ?_⟩⟩
  ·rw [a5]
   simp only [List.size_toArray, List.length_append, List.length_take, List.length_drop, hdl, Array.length_toList, hT1s]
   omega
  ·simp only [List.length_append, List.length_take, List.length_drop, List.length_singleton]
   omega
  ·have e0 : ROW.toList.take (i * 2) = impl_PutFile.fl (l.take i) := by
    rw [hRl, impl_PutFile.fl_take, List.append_assoc, List.take_append_of_le_length (by rw [hlen]; exact Nat.le_refl _), List.take_of_length_le (by rw [hlen]; exact Nat.le_refl _)]
   have e1 : T1.toList.take ((i + 1) * 2) = impl_PutFile.fl (l.take i) ++ impl_PutFile.fl [x] := by
    rw [a4]
    simp only [e0]
    rw [List.take_append_of_le_length (by rw [List.length_append, impl_PutFile.fl_length, hlen, a3]; omega), List.take_of_length_le (by rw [List.length_append, impl_PutFile.fl_length, hlen, a3]; omega)]
   rw [a5]
   simp only [e1]
   rw [← impl_PutFile.fl_app, ← impl_PutFile.fl_app, List.take_append_of_le_length (by rw [impl_PutFile.fl_length]; simp only [List.length_append, List.length_take, List.length_drop, List.length_singleton]; omega), List.take_of_length_le (by rw [impl_PutFile.fl_length]; simp only [List.length_append, List.length_take, List.length_drop, List.length_singleton]; omega)]
  ·rw [a2, a1, a0]; rfl
  ·rw [a2, a1, a0]; rfl
  ·rw [a2, a1, a0]; rfl
  ·rw [a2, a1, a0]; simp [World.setRow]
  ·have hkN : k ≠ N := by omega
   rw [a2, setRow_other _ _ _ _ hkN]
   show W2.heap[k]? = _
   rw [a1, setRow_other _ _ _ _ hkN, a0]
   exact Below.heap_alloc w.drew _ k hk)
 rw [← hN, ← a0] at hrz
 have HZ := zA (hrz 27)
 have HA := zA (hcpA 3 (G - i))
 have b8 := zA hcpB
 have c1 : ¬ ((i : Int) = (n : Int)) := by omega
 have c2 : ¬ (c = i) := by omega
 have hGi : ¬ (G = i) := by omega
 have c3 : ¬ (G = i + 1) := by omega
 have hin : (i : Int) ≤ (n : Int) := by omega
 have c4 : (i : Int) ≤ (n : Int) + 1 := by omega
 have c5 : (i : Int) + 1 ≤ (n : Int) + 1 := by omega
 have hicc : (i : Int) ≤ (c : Int) := by omega
 have c6 : (0 : Int) ≤ (i : Int) + 1 := by omega
 have c7 : IntKind.i64.wrap ((i : Int) + 1) = (i : Int) + 1 := by rw [IntKind.wrap_i64]; omega
 have c8 : IntKind.i64.wrap ((n : Int) + 1) = (n : Int) + 1 := by rw [IntKind.wrap_i64]; omega
 have c9 : IntKind.i64.wrap ((n : Int) + 1 - (i : Int)) = (n : Int) + 1 - (i : Int) := by rw [IntKind.wrap_i64]; omega
 have d0 : ((c : Int) < (n : Int) + 1) := by omega
 have htn : ((i : Int) + 1).toNat = i + 1 := by omega
 clear HR hv hcur htk a9 b3 b4 a4 hT1s a1 b0 b5 hcpA hcpB a5 a2 hhead hdl hn hlen hcs hrz hRl hRs hROW hold a3 a8 hN a0 hG
 go_enter Tryd.func61, Tryd.ntmps61
 go_wp2_with (first | ((with_reducible refine gate_builtin (b := .append) (xs := #[.tmp 34, .tmp 39]) rfl ?_); at_builtin; refine Lib.wpList_append_run _ rfl _ _ 27 3 rfl _ _ rfl rfl _ _ HZ.out ?_) | simp only [HA.out])
 go_region_law_o (refine impl_PutFile.step_run (v' := goInt (Nat.min (n - i) (n - i))) (w' := W3) rfl (by have h1 := b8.out 3 (G - (i + 1)) (c - i); simp [execOp, resolve, invoke, builtin, Act.eval, Act.put, h1, Result.andThen]) ?_)
 go_wp2
 go_ret
 exact ⟨_, rfl, by simpa using HF.out.1, HF.out.2⟩
theorem impl_PutFile.insert (A : Option Addr) (c i : Nat) (l : List S31) (x : S31) (vb base : Nat) (ok : Nat → Prop) (w : World) (HR : Kd.R k31 31 w base ok (.slice A l.length c) l) (hi : i ≤ l.length) (hv : w.heap[vb]? = some (.cells #[.string x.f0, .string x.f1] 31 (0, 0))) (hne : ∀ k, (Value.slice A l.length c).ownBlock = some k → vb ≠ k) (hf : ∀ k, w.heap.size ≤ k → ok k) (hb : base ≤ w.heap.size) (hl : l.length + 1 ≤ 4398046511104) :
  Calls Tryd.prog 61 #[.slice A l.length c, .int .i64 (i : Int), .slice (some ⟨vb, 0, none⟩) 1 1] w fun e w' => ∃ v1, e = .returned v1 ∧ Kd.R k31 31 w' base ok v1 (l.take i ++ [x] ++ l.drop i) ∧ w.grownBy w' (Value.slice A l.length c).ownBlock := by
 rcases Nat.lt_or_ge i l.length with h | h
 ·obtain ⟨g, cap, ev, _⟩ := Kd.R_form HR (by omega); injection ev with ea _ ec; subst ea; subst ec
  rcases Nat.lt_or_ge c (l.length + 1) with h1 | h1
  ·exact impl_PutFile.ins_grow g l.length c i l x vb base ok w HR h h1 hv (hne g rfl) hf hb hl
  ·exact (impl_PutFile.ins_room g l.length c i l x vb base ok w HR h h1 hv (hne g rfl)).mono (fun e w' hh => ⟨_, hh⟩)
 ·obtain rfl : i = l.length := by omega
  rw [List.take_length, List.drop_length, List.append_nil]
  exact impl_PutFile.ins_end A c l x vb base ok w HR hv hf hb hl
set_option maxHeartbeats 4000000 in
set_option maxRecDepth 1000000 in
theorem impl_PutFile.deletes (gf : Nat) (p0 p1 : ByteArray) (A : Option Addr) (n c : Nat) (l : List S31) (base : Nat) (ok : Nat → Prop) (w : World) (HR : Kd.R k31 31 w base ok (.slice A n c) l) (hbf : w.heap[gf]? = some (.cells #[.string p0, .string p1] 31 (0, 0))) (hne : ∀ k, (Value.slice A n c).ownBlock = some k → gf ≠ k) :
  Calls Tryd.prog 58 #[.slice A n c, .func (.func 60) #[] #[.pointer (some ⟨gf, 0, none⟩)]] w fun e w' => ∃ m, e = .returned (.slice A m c) ∧ Kd.R k31 31 w' base ok (.slice A m c) (l.filter (fun x : S31 => !(x.f0.toList == p0.toList))) ∧ w.grownBy w' (Value.slice A n c).ownBlock := by
 rcases A with _ | ad
 ·obtain ⟨hn, hnc, hC⟩ := Kd.R_reads' HR
  have hl : l = [] := by
   rcases l with _ | ⟨x, l⟩
   ·rfl
   ·obtain ⟨_, h, _⟩ := hC.2.2 (by simp); cases h
  subst hl; subst hn
  have mixed : Tryd.prog.follows .mixedOrders = true := by kernel_rfl
  have HX := zA (impl_PutFile.index gf p0 p1 none c [] (-1) w hC hnc hbf rfl); have HO := zA HR; clear HR hC hnc hbf
  go_enter Tryd.func58, Tryd.ntmps58
  go_wp2_with (go_at_call 101; refine HX.out.mono ?_; rintro e w' ⟨rfl, hb'⟩)
  go_ret
  exact ⟨_, rfl, Kd.R_below HO.out hb', impl_PutFile.grown ⟨rfl, rfl, rfl, Nat.le_refl _, fun _ _ _ => rfl⟩ hb'⟩
 ·obtain ⟨g, rfl⟩ := Kd.R_head HR
  exact impl_PutFile.delete gf p0 p1 g n c l base ok w HR hbf (hne g rfl)
def impl_PutFile.o1 (p0 : ByteArray) (l : List S31) : List S31 := l.filter (fun x : S31 => !(x.f0.toList == p0.toList))
def impl_PutFile.at (p0 : ByteArray) (l : List S31) : Nat := (l.takeWhile (fun x : S31 => Op.bytesLess x.f0.toList p0.toList)).length
def impl_PutFile.put (x : S31) (l : List S31) : List S31 := l.take (impl_PutFile.at x.f0 l) ++ [x] ++ l.drop (impl_PutFile.at x.f0 l)
def impl_PutFile.f (k : Nat) (l0 : List S31) (a0 a1 : ByteArray) : Option (List S31 × Bool) := (impl_File_59.f l0).bind fun o => (impl_FilesOk.f k (impl_PutFile.put ⟨a0, a1⟩ (impl_PutFile.o1 a0 o))).bind fun t => if t = true then some (impl_PutFile.put ⟨a0, a1⟩ (impl_PutFile.o1 a0 o), true) else (impl_File_59.f l0).bind fun o2 => some (o2, false)
theorem impl_PutFile.at_le (p0 : ByteArray) (l : List S31) : impl_PutFile.at p0 l ≤ l.length := (List.takeWhile_sublist _).length_le
theorem impl_PutFile.at_step {p0 : ByteArray} {l : List S31} {j : Nat} (h : j < l.length) : impl_PutFile.at p0 (l.drop j) = if Op.bytesLess l[j].f0.toList p0.toList = true then impl_PutFile.at p0 (l.drop (j + 1)) + 1 else 0 := by
 unfold impl_PutFile.at
 rw [List.drop_eq_getElem_cons h, List.takeWhile_cons]
 split <;> simp_all
set_option maxHeartbeats 8000000 in
set_option maxRecDepth 1000000 in
theorem impl_PutFile.calls (k : Nat) (A0 : Option Addr) (c0 : Nat) (l0 : List S31) (a0 a2 : ByteArray) (r1 : List S31) (r2 : Bool) (w : World) (b1 : Kd.C k31 w A0 l0.length l0) (b2 : l0.length ≤ c0) (hG : GW w) (h : impl_PutFile.f k l0 a0 a2 = some (r1, r2)) :
  Calls Tryd.prog 13 #[.slice A0 l0.length c0, .agg #[.string a0, .string a2]] w fun e w' => ∃ b3 : Value, e = .returned (.tuple #[b3, .bool r2]) ∧ Kd.R k31 31 w' w.heap.size (fun _ => True) b3 r1 ∧ Below w.heap.size w w' := by
 have mixed : Tryd.prog.follows .mixedOrders = true := by kernel_rfl
 have b9 := Tryd.underlying27
 have c1 := Tryd.underlying31
 have HG := zA hG
 have a7 := zA b1
 have a8 := zA b2
 have HB := zA (Below.refl w.heap.size w)
 clear hG b1 b2
 unfold impl_PutFile.f at h
 replace h := Option.bind_eq_some_iff.mp h
 obtain ⟨o, hout, h⟩ := h
 replace h := Option.bind_eq_some_iff.mp h
 obtain ⟨t, ht, h⟩ := h
 have hol : o.length < 4398046511104 := by
  have hc := hout; unfold impl_File_59.f at hc
  simp only [Option.bind_some, List.length_nil, List.nil_append, Nat.zero_add] at hc
  split at hc
  ·obtain rfl := Option.some.inj hc
   omega
  ·cases hc
 have b4 : (impl_PutFile.o1 a0 o).length + 1 ≤ 4398046511104 := by
  have : (impl_PutFile.o1 a0 o).length ≤ o.length := List.length_filter_le _ _
  omega
 have CL := zA hout
 have FO := zA ht
 have REST := zA h
 have a4 := zA b4
 have b8 : (impl_PutFile.o1 a0 o).length ≤ 9223372036854775807 := by omega
 clear hout ht h hol b4
 go_enter Tryd.func13, Tryd.ntmps13
 go_wp2_with (first
  | ((with_reducible refine zd 3 ?_); refine ze 3 31 #[.string a0, .string a2] ?_; intro gf hg w2 hbox hb; have GF := zA (show w.heap.size ≤ gf by rw [hg]; exact Nat.le_refl _); have BX := zA hbox; replace HB := zA (below_step HB.out hb); clear hb hbox hg)
  | (go_at_call 59; (with_reducible refine (impl_File_59.calls A0 c0 l0 o _ ?h1 a8.out CL.out).mono ?_); (case h1 => exact Kd.C_below a7.out HB.out); rintro e w3 ⟨v2, rfl, ho, hb⟩; have HNE := zA (fun k (hk : v2.ownBlock = some k) => (show gf ≠ k from by have h1 := Kd.R_base ho k hk; have h2 := blk_lt BX.out; omega)); have HO := zA (Kd.R_lower ho (below_size HB.out)); replace BX := zA (blk_below BX.out hb); have a1 := zA (below_step HB.out hb); clear HB; have HB := a1; clear a1 hb ho; obtain ⟨Ao, co, eo⟩ := Kd.R_slice HO.out; subst eo)
  | (go_at_call 58; (with_reducible refine (impl_PutFile.deletes gf a0 a2 Ao o.length co o w.heap.size (fun _ => True) _ HO.out BX.out HNE.out).mono ?_); rintro e w4 ⟨m, rfl, ho, hg⟩; have a1 := zA (HB.out.grown hg (below_size HB.out) (Kd.R_base HO.out)); have a3 := zA (blk_grown BX.out hg (fun e_ => HNE.out _ e_.symm rfl)); clear HB BX HO; have HB := a1; have BX := a3; have HO := zA (show Kd.R k31 31 w4 w.heap.size (fun _ => True) (.slice Ao m co) (impl_PutFile.o1 a0 o) from ho); clear a1 a3 ho hg))
 obtain ⟨L, hL⟩ : ∃ L, L = impl_PutFile.o1 a0 o := ⟨_, rfl⟩
 rw [← hL] at HO FO REST a4 b8
 obtain rfl : m = L.length := (Kd.R_reads' HO.out).1
 have c2 := zA (show ∀ k, (Value.slice Ao L.length co).ownBlock = some k → gf ≠ k from by
  have h1 := HNE.out
  intro k hk
  refine h1 k ?_
  cases Ao with
  | none => cases hk
  | some a => exact hk)
 obtain ⟨L2, a9⟩ : ∃ L2, L2 = impl_PutFile.put ⟨a0, a2⟩ L := ⟨_, rfl⟩
 rw [← a9] at FO REST
 have b5 := zA a9
 clear HNE hL a9
 go_loopg [7] L.length (fun gg s7 wr => ∃ j : Nat, s7 = .int .i64 j ∧ j ≤ L.length ∧ L.length - j ≤ gg ∧ Aside0 (impl_PutFile.at a0 (L.drop j) + j = impl_PutFile.at a0 L) ∧ Aside0 (Kd.R k31 31 wr w.heap.size (fun _ => True) (.slice Ao L.length co) L) ∧ Aside0 (wr.heap[gf]? = some (.cells #[.string a0, .string a2] 31 (0, 0))) ∧ Aside0 (Below w.heap.size w wr))
 case atStart => exact ⟨0, rfl, Nat.zero_le _, by omega, ⟨rfl⟩, HO, BX, HB⟩
 case round =>
  clear HO BX HB; obtain ⟨j, rfl, hjl, hgg, HA, HO, BX, HB⟩ := hrel; have c3 : wr.cell? ⟨gf, 0, none⟩ = some (.string a0) := (blk_cell BX.out 0).trans rfl; have c4 : wr.cell? ⟨gf, 1, none⟩ = some (.string a2) := (blk_cell BX.out 1).trans rfl
  by_cases hlt : j < L.length
  ·have hltz : (j : Int) < (L.length : Int) := by omega
   have h0z : (0 : Int) ≤ (j : Int) := by omega
   obtain ⟨ad, e', b6, b7⟩ := at_T31 (Kd.R_reads' HO.out).2.2 (j : Int) h0z hltz
   cases e'
   have hget : rd_T31 L (j : Int) = L[j] := by
    unfold rd_T31; rw [List.getD_eq_getElem?_getD, Int.toNat_natCast, List.getElem?_eq_getElem hlt]
    rfl
   rw [hget, Int.toNat_natCast] at b6 b7; have HS := impl_PutFile.at_step (p0 := a0) hlt; obtain ⟨u, hu⟩ : ∃ u, u = L[j] := ⟨_, rfl⟩; rw [← hu] at b6 b7 HS; clear hget hu
   cases hp : Op.bytesLess u.f0.toList a0.toList with
   | true =>
    have HK := zA (show impl_PutFile.at a0 (L.drop (j + 1)) + (j + 1) = impl_PutFile.at a0 L from by have h1 := HA.out; rw [HS, hp, if_pos rfl] at h1; omega); clear HS HA
    go_wp2
    go_region
    go_wp2
    go_roundg (L.length - (j + 1))
    case measure => omega
    case rel => exact ⟨j + 1, by go_num, by omega, by omega, HK, ⟨Kd.R_drew HO.out⟩, ⟨blk_drew BX.out⟩, ⟨below_drew1 HB.out⟩⟩
   | false =>
    have HK := zA (show j = impl_PutFile.at a0 L from by have h1 := HA.out; rw [HS, hp, if_neg (by simp)] at h1; omega); clear HS HA; have a5 := zA (show L.take j ++ [(⟨a0, a2⟩ : S31)] ++ L.drop j = L2 from by rw [b5.out]; unfold impl_PutFile.put; rw [← HK.out]); have HJ := zA hjl; clear hjl; have H := REST.out; clear REST HK
    by_cases ht : t = true
    ·subst ht; rw [if_pos rfl] at H; simp only [zU] at H; obtain ⟨rfl, rfl⟩ := H
     go_wp2
     go_region
     go_wp2_with (first
      | ((with_reducible refine gate_dst (N := 31) rfl ?_); refine Kd.event_run (w1 := (wr.alloc (.cells #[.string a0, .string a2] 31 (0, 0))).drew) (v := .slice (some ⟨wr.heap.size, 0, none⟩) 1 1) rfl ?hr ?_; (case hr => first | (go_simp; done) | (go_simp; rfl)); have VB := zA (blk_drew (blk_new wr (.cells #[.string a0, .string a2] 31 (0, 0)))); have VN := zA (fun k (hk : (Value.slice (some ad) L.length co).ownBlock = some k) => (show wr.heap.size ≠ k from by have h1 := Kd.R_lt HO.out k hk; exact Nat.ne_of_gt h1)); replace HO := zA (Kd.R_drew (Kd.R_alloc HO.out (.cells #[.string a0, .string a2] 31 (0, 0)))); replace HB := zA (below_drew1 (below_alloc HB.out (.cells #[.string a0, .string a2] 31 (0, 0)))); generalize hvb : wr.heap.size = vb at VB VN ⊢; clear hvb)
      | (go_at_call 61; (with_reducible refine (impl_PutFile.insert (some ad) co j L ⟨a0, a2⟩ vb w.heap.size (fun _ => True) _ HO.out HJ.out VB.out VN.out (fun _ _ => trivial) (below_size HB.out) a4.out).mono ?_); rintro e w5 ⟨v5, rfl, ho, hg⟩; rw [a5.out] at ho; have a1 := zA (HB.out.grown hg (below_size HB.out) (Kd.R_base HO.out)); clear HB HO; have HB := a1; have HO := zA ho; clear a1 ho hg; obtain ⟨A5, c5, e5⟩ := Kd.R_slice HO.out; subst e5)
      | (go_at_call 30; (with_reducible refine (impl_FilesOk.calls k _ _ _ true _ ?h1 ?h2 ?h3 FO.out).mono ?_); (case h1 => exact (Kd.R_reads' HO.out).2.2); (case h2 => exact (Kd.R_reads' HO.out).2.1); (case h3 => exact GW.below HG.out HB.out); rintro e w6 ⟨rfl, hb⟩; have a1 := zA (below_step HB.out hb); have a3 := zA (Kd.R_below HO.out hb); clear HB HO; have HB := a1; have HO := a3; clear a1 a3 hb))
     go_ret2
     exact ⟨_, rfl, zR HO.out, zB⟩
    obtain rfl : t = false := by cases t <;> simp_all
    rw [if_neg (by simp)] at H; replace H := Option.bind_eq_some_iff.mp H; obtain ⟨o2, a6, H⟩ := H; simp only [zU] at H; obtain ⟨rfl, rfl⟩ := H; have C2 := zA a6; clear a6 ht
    go_wp2
    go_region
    go_wp2_with (first
     | ((with_reducible refine gate_dst (N := 31) rfl ?_); refine Kd.event_run (w1 := (wr.alloc (.cells #[.string a0, .string a2] 31 (0, 0))).drew) (v := .slice (some ⟨wr.heap.size, 0, none⟩) 1 1) rfl ?hr ?_; (case hr => first | (go_simp; done) | (go_simp; rfl)); have VB := zA (blk_drew (blk_new wr (.cells #[.string a0, .string a2] 31 (0, 0)))); have VN := zA (fun k (hk : (Value.slice (some ad) L.length co).ownBlock = some k) => (show wr.heap.size ≠ k from by have h1 := Kd.R_lt HO.out k hk; exact Nat.ne_of_gt h1)); replace HO := zA (Kd.R_drew (Kd.R_alloc HO.out (.cells #[.string a0, .string a2] 31 (0, 0)))); replace HB := zA (below_drew1 (below_alloc HB.out (.cells #[.string a0, .string a2] 31 (0, 0)))); generalize hvb : wr.heap.size = vb at VB VN ⊢; clear hvb)
     | (go_at_call 61; (with_reducible refine (impl_PutFile.insert (some ad) co j L ⟨a0, a2⟩ vb w.heap.size (fun _ => True) _ HO.out HJ.out VB.out VN.out (fun _ _ => trivial) (below_size HB.out) a4.out).mono ?_); rintro e w5 ⟨v5, rfl, ho, hg⟩; rw [a5.out] at ho; have a1 := zA (HB.out.grown hg (below_size HB.out) (Kd.R_base HO.out)); clear HB HO; have HB := a1; have HO := zA ho; clear a1 ho hg; obtain ⟨A5, c5, e5⟩ := Kd.R_slice HO.out; subst e5)
     | (go_at_call 30; (with_reducible refine (impl_FilesOk.calls k _ _ _ false _ ?h1 ?h2 ?h3 FO.out).mono ?_); (case h1 => exact (Kd.R_reads' HO.out).2.2); (case h2 => exact (Kd.R_reads' HO.out).2.1); (case h3 => exact GW.below HG.out HB.out); rintro e w6 ⟨rfl, hb⟩; have a1 := zA (below_step HB.out hb); have a3 := zA (Kd.R_below HO.out hb); clear HB HO; have HB := a1; have HO := a3; clear a1 a3 hb)
     | (go_at_call 59; (with_reducible refine (impl_File_59.calls A0 c0 l0 o2 _ ?h1 a8.out C2.out).mono ?_); (case h1 => exact Kd.C_below a7.out HB.out); rintro e w7 ⟨v7, rfl, ho, hb⟩; have a1 := zA (below_step HB.out hb); have b0 := zA (Kd.R_lower ho (below_size HB.out)); clear HB; have HB := a1; clear a1 hb ho))
    go_ret2
    exact ⟨_, rfl, zR b0.out, zB⟩
  have hltz : ¬ (j : Int) < (L.length : Int) := by omega
  have HK := zA (show j = impl_PutFile.at a0 L from by have h1 := HA.out; rw [List.drop_eq_nil_of_le (by omega)] at h1; simpa [impl_PutFile.at] using h1); clear HA; have a5 := zA (show L.take j ++ [(⟨a0, a2⟩ : S31)] ++ L.drop j = L2 from by rw [b5.out]; unfold impl_PutFile.put; rw [← HK.out]); have HJ := zA hjl; clear hjl; have H := REST.out; clear REST HK
  by_cases ht : t = true
  ·subst ht; rw [if_pos rfl] at H; simp only [zU] at H; obtain ⟨rfl, rfl⟩ := H
   go_wp2
   go_region
   go_wp2_with (first
    | ((with_reducible refine gate_dst (N := 31) rfl ?_); refine Kd.event_run (w1 := (wr.alloc (.cells #[.string a0, .string a2] 31 (0, 0))).drew) (v := .slice (some ⟨wr.heap.size, 0, none⟩) 1 1) rfl ?hr ?_; (case hr => first | (go_simp; done) | (go_simp; rfl)); have VB := zA (blk_drew (blk_new wr (.cells #[.string a0, .string a2] 31 (0, 0)))); have VN := zA (fun k (hk : (Value.slice Ao L.length co).ownBlock = some k) => (show wr.heap.size ≠ k from by have h1 := Kd.R_lt HO.out k hk; exact Nat.ne_of_gt h1)); replace HO := zA (Kd.R_drew (Kd.R_alloc HO.out (.cells #[.string a0, .string a2] 31 (0, 0)))); replace HB := zA (below_drew1 (below_alloc HB.out (.cells #[.string a0, .string a2] 31 (0, 0)))); generalize hvb : wr.heap.size = vb at VB VN ⊢; clear hvb)
    | (go_at_call 61; (with_reducible refine (impl_PutFile.insert Ao co j L ⟨a0, a2⟩ vb w.heap.size (fun _ => True) _ HO.out HJ.out VB.out VN.out (fun _ _ => trivial) (below_size HB.out) a4.out).mono ?_); rintro e w5 ⟨v5, rfl, ho, hg⟩; rw [a5.out] at ho; have a1 := zA (HB.out.grown hg (below_size HB.out) (Kd.R_base HO.out)); clear HB HO; have HB := a1; have HO := zA ho; clear a1 ho hg; obtain ⟨A5, c5, e5⟩ := Kd.R_slice HO.out; subst e5)
    | (go_at_call 30; (with_reducible refine (impl_FilesOk.calls k _ _ _ true _ ?h1 ?h2 ?h3 FO.out).mono ?_); (case h1 => exact (Kd.R_reads' HO.out).2.2); (case h2 => exact (Kd.R_reads' HO.out).2.1); (case h3 => exact GW.below HG.out HB.out); rintro e w6 ⟨rfl, hb⟩; have a1 := zA (below_step HB.out hb); have a3 := zA (Kd.R_below HO.out hb); clear HB HO; have HB := a1; have HO := a3; clear a1 a3 hb))
   go_ret2
   exact ⟨_, rfl, zR HO.out, zB⟩
  obtain rfl : t = false := by cases t <;> simp_all
  rw [if_neg (by simp)] at H; replace H := Option.bind_eq_some_iff.mp H; obtain ⟨o2, a6, H⟩ := H; simp only [zU] at H; obtain ⟨rfl, rfl⟩ := H; have C2 := zA a6; clear a6 ht
  go_wp2
  go_region
  go_wp2_with (first
   | ((with_reducible refine gate_dst (N := 31) rfl ?_); refine Kd.event_run (w1 := (wr.alloc (.cells #[.string a0, .string a2] 31 (0, 0))).drew) (v := .slice (some ⟨wr.heap.size, 0, none⟩) 1 1) rfl ?hr ?_; (case hr => first | (go_simp; done) | (go_simp; rfl)); have VB := zA (blk_drew (blk_new wr (.cells #[.string a0, .string a2] 31 (0, 0)))); have VN := zA (fun k (hk : (Value.slice Ao L.length co).ownBlock = some k) => (show wr.heap.size ≠ k from by have h1 := Kd.R_lt HO.out k hk; exact Nat.ne_of_gt h1)); replace HO := zA (Kd.R_drew (Kd.R_alloc HO.out (.cells #[.string a0, .string a2] 31 (0, 0)))); replace HB := zA (below_drew1 (below_alloc HB.out (.cells #[.string a0, .string a2] 31 (0, 0)))); generalize hvb : wr.heap.size = vb at VB VN ⊢; clear hvb)
   | (go_at_call 61; (with_reducible refine (impl_PutFile.insert Ao co j L ⟨a0, a2⟩ vb w.heap.size (fun _ => True) _ HO.out HJ.out VB.out VN.out (fun _ _ => trivial) (below_size HB.out) a4.out).mono ?_); rintro e w5 ⟨v5, rfl, ho, hg⟩; rw [a5.out] at ho; have a1 := zA (HB.out.grown hg (below_size HB.out) (Kd.R_base HO.out)); clear HB HO; have HB := a1; have HO := zA ho; clear a1 ho hg; obtain ⟨A5, c5, e5⟩ := Kd.R_slice HO.out; subst e5)
   | (go_at_call 30; (with_reducible refine (impl_FilesOk.calls k _ _ _ false _ ?h1 ?h2 ?h3 FO.out).mono ?_); (case h1 => exact (Kd.R_reads' HO.out).2.2); (case h2 => exact (Kd.R_reads' HO.out).2.1); (case h3 => exact GW.below HG.out HB.out); rintro e w6 ⟨rfl, hb⟩; have a1 := zA (below_step HB.out hb); have a3 := zA (Kd.R_below HO.out hb); clear HB HO; have HB := a1; have HO := a3; clear a1 a3 hb)
   | (go_at_call 59; (with_reducible refine (impl_File_59.calls A0 c0 l0 o2 _ ?h1 a8.out C2.out).mono ?_); (case h1 => exact Kd.C_below a7.out HB.out); rintro e w7 ⟨v7, rfl, ho, hb⟩; have a1 := zA (below_step HB.out hb); have b0 := zA (Kd.R_lower ho (below_size HB.out)); clear HB; have HB := a1; clear a1 hb ho))
  go_ret2
  exact ⟨_, rfl, zR b0.out, zB⟩
/-! ### laws_eqFile: function 62 -/
def laws_eqFile.f (a0 a1 a2 a3 : ByteArray) : Option (Bool) := if a0.toList = a2.toList then (if a1.toList = a3.toList then (some true) else (some false)) else (some false)
theorem laws_eqFile.calls (a3 a4 a5 a6 : ByteArray) (r : Bool) (w : World) (h : laws_eqFile.f a3 a4 a5 a6 = some r) :
  Calls Tryd.prog 62 #[.agg #[.string a3, .string a4], .agg #[.string a5, .string a6]] w fun e w' => e = .returned (.bool r) ∧ Below w.heap.size w w' := by
 have b2 := Tryd.underlying31
 have HB := zA (Below.refl w.heap.size w)
 unfold laws_eqFile.f at h
 have H := h
 clear h
 go_enter Tryd.func62, Tryd.ntmps62
 go_upto_if 9 with (first | ((with_reducible refine zd 2 ?_); refine ze 2 31 #[.string a3, .string a4] ?_; intro b3 hg w5 hbox hb; have a0 := zA (hbox); have b4 := zi HB hg; have b5 := zi HB hg; replace HB := zA (below_step (zB) hb); clear hb hbox hg) | ((with_reducible refine zd 3 ?_); refine ze 3 31 #[.string a5, .string a6] ?_; intro b6 hg w6 hbox hb; have a9 := zA (hbox); have b7 := zi HB hg; have b8 := zi HB hg; replace HB := zh HB hb; have b0 := zA (zL hg (zK a0.out)); have b1 := zA (zJ hg (zK a0.out)); replace a0 := zb a0 hb; clear hb hbox hg; have b9 := b0.out; have c0 := b1.out; obtain ⟨c1, c2, c5, c6⟩ := ze2 a0.out; obtain ⟨c7, c8, c9, d0⟩ := ze2 a9.out))
 (try simp only [Act.put, zT])
 replace H := zI1 H
 rcases H with ⟨c3, H⟩ | ⟨c3, H⟩
 ·have a1 := beq_iff_eq.mpr c3; have a2 := bne_eq_false_iff_eq.mpr c3; clear c3; replace H := zI1 H
  rcases H with ⟨c4, H⟩ | ⟨c4, H⟩
  ·have a7 := beq_iff_eq.mpr c4; have a8 := bne_eq_false_iff_eq.mpr c4; clear c4; obtain rfl := zm H
   (try simp only [a1, a2, a7, a8])
   go_wp2
   go_ret
   exact ⟨zE, zW HB.out⟩
  have a7 := beq_eq_false_iff_ne.mpr c4; have a8 := bne_iff_ne.mpr c4; obtain rfl := zm H
  (try simp only [a1, a2, a7, a8])
  go_wp2
  go_ret
  exact ⟨zE, zW HB.out⟩
 have a1 := beq_eq_false_iff_ne.mpr c3
 have a2 := bne_iff_ne.mpr c3
 obtain rfl := zm H
 (try simp only [a1, a2])
 go_wp2
 go_ret
 exact ⟨zE, zW HB.out⟩
end Go.Proofs.YtbaeljcnbkeipaaDoor.PGC
namespace Go.Proofs.YtbaeljcnbkeipaaDoor.PGC
open Go.RowKit YtbaeljcnbkeipaaDoorW.PrintWords YtbaeljcnbkeipaaDoorW.PrintLast YtbaeljcnbkeipaaDoorW.PrintMore
attribute [local go_sem high] Mine.str_gtr Mine.str_leq Mine.str_geq
attribute [local go_sem] max2_int min2_int max_two min_two max_three min_three max_four min_four   -- for this text's walks alone
set_option linter.unusedVariables false
set_option maxHeartbeats 8000000
set_option maxRecDepth 100000
set_option linter.unusedSimpArgs false
/-! ### laws_eqFileS: function 14 -/
mutual
def laws_eqFileS.j0 : Nat → List (S31) → List (S31) → Option (Bool)
 | 0, _, _ => none
 | k + 1, x0, x1 => laws_eqFileS.l0 k x0 x1 0
def laws_eqFileS.l0 : Nat → List (S31) → List (S31) → Int → Option (Bool)
 | 0, _, _, _ => none
 | k + 1, x0, x1, x5 => if x5 < (x0.length : Int) then (if 0 ≤ x5 then (if x5 < (x1.length : Int) then ((laws_eqFile.f ((rd_T31 x0 x5).f0) ((rd_T31 x0 x5).f1) ((rd_T31 x1 x5).f0) ((rd_T31 x1 x5).f1)).bind fun a0 => (if a0 = true then (laws_eqFileS.l0 k x0 x1 (wrap64 (x5 + 1))) else (some false))) else (none)) else (none)) else (some true)
end
def laws_eqFileS.f (k : Nat) (l0 : List (S31)) (l1 : List (S31)) : Option (Bool) := if (l0.length : Int) = (l1.length : Int) then (laws_eqFileS.j0 k l0 l1) else (some false)
def laws_eqFileS.T6 : Bool × List (List Nat × List Nat) := (true, [([], []), ([], []), ([0, 1], [0, 1]), ([2], [2]), ([], []), ([], []), ([4, 5], [4, 5]), ([6], [6]), ([3, 7], [3, 7]), ([8], [8])])
def laws_eqFileS.B6 : List Nat := [0, 0, 3, 7, 0, 0, 48, 112, 255, 511]
theorem laws_eqFileS.tab6 : rtab .any (opsOf Tryd.f14 6) = laws_eqFileS.T6 := by kernel_rfl
theorem laws_eqFileS.bits6 : waitsOk laws_eqFileS.T6.2 laws_eqFileS.B6 = true := by kernel_rfl
theorem laws_eqFileS.calls (k : Nat) (A0 : Option Addr) (c0 : Nat) (l0 : List (S31)) (A1 : Option Addr) (c1 : Nat) (l1 : List (S31)) (r : Bool) (w : World) (b7 : Kd.C k31 w A0 l0.length l0) (b8 : l0.length ≤ c0) (b9 : Kd.C k31 w A1 l1.length l1) (c2 : l1.length ≤ c1) (h : laws_eqFileS.f k l0 l1 = some r) :
  Calls Tryd.prog 14 #[.slice A0 l0.length c0, .slice A1 l1.length c1] w fun e w' => e = .returned (.bool r) ∧ Below w.heap.size w w' := by
 have d5 := Tryd.underlying31
 have c3 := zA b7
 have d6 := zA b8
 clear b7 b8
 have c5 := zA b9
 have d7 := zA c2
 clear b9 c2
 have HB := zA (Below.refl w.heap.size w)
 unfold laws_eqFileS.f at h
 have H := h
 clear h
 have b2 := zA H
 clear H
 go_enter Tryd.func14, Tryd.ntmps14
 go_upto_if 10 with (fail)
 go_cut [] (fun wc => ∃ (kq : Nat), Aside0 (laws_eqFileS.j0 kq l0 l1 = some r) ∧ Aside0 (kq ≤ k) ∧ Aside0 (Below w.heap.size w wc))
 case first =>
  have H := b2.out; clear b2; replace H := zI1 H
  rcases H with ⟨c4, H⟩ | ⟨c4, H⟩
  ·have a5 := beq_iff_eq.mpr c4; have b3 := bne_eq_false_iff_eq.mpr c4
   have b4 : (l0.length == l1.length) = true := by first | simpa using c4 | (simp at c4 ⊢; omega)
   clear c4
   (first | rw [a5] | (simp only [i64_w, i32_w]; rw [a5]) | skip)
   have H' := zA H; clear H
   go_wp2
   go_meet
   case rel => exact ⟨_, (by first | exact H' | (subst_vars; exact H')), ⟨by first | omega | exact Nat.le_refl _⟩, ⟨zB⟩⟩
  have a5 := beq_eq_false_iff_ne.mpr c4; have b3 := bne_iff_ne.mpr c4
  have b4 : (l0.length == l1.length) = false := by first | simpa using c4 | (simp at c4 ⊢; omega)
  (first | rw [a5] | (simp only [i64_w, i32_w]; rw [a5]) | skip)
  obtain rfl := zm H
  go_wp2
  go_ret
  exact ⟨zE, zB⟩
 case rest =>
  clear b2
  try clear c1
  try clear p2
  try clear c4
  try clear a5
  try clear b3
  try clear b4
  obtain ⟨kq, HA, c6, HB⟩ := hcut
  cases kq with
  | zero => exact absurd HA.out (by simp [laws_eqFileS.j0])
  | succ c7 =>
   have H := HA.out; clear HA; simp only [laws_eqFileS.j0] at H; have H' := zA H; clear H
   go_wp2
   go_loopg [5] c7 (fun kq v5 w' => ∃ (a0 : Int), v5 = .int .i64 a0 ∧ Aside0 (laws_eqFileS.l0 kq l0 l1 a0 = some r) ∧ Aside0 (kq ≤ c7) ∧ Aside0 (Below w.heap.size w w'))
   case atStart => exact ⟨(0), zS, H', ⟨Nat.le_refl _⟩, ⟨zB⟩⟩
   case round =>
    clear H'
    try clear c1
    try clear p2
    try clear c4
    try clear a5
    try clear b3
    try clear b4
    try clear p2
    obtain ⟨a0, rfl, HA, c8, HB⟩ := hrel
    cases gk with
    | zero => exact absurd HA.out (by simp [laws_eqFileS.l0])
    | succ k2 =>
     have H := HA.out; clear HA; simp only [laws_eqFileS.l0] at H; replace H := zI0 H
     rcases H with ⟨d0, H⟩ | ⟨d0, H⟩
     ·replace H := zD0 H; obtain ⟨d8, H⟩ := H; replace H := zD0 H; obtain ⟨d9, H⟩ := H; replace H := Option.bind_eq_some_iff.mp H; obtain ⟨e0, c9, H⟩ := H
      try dsimp only at H
      have A8 := zA c9; clear c9; replace H := zB0 H
      rcases H with ⟨rfl, H⟩ | ⟨rfl, H⟩
      ·have H' := zA H; clear H
       try go_wp2
       replace HB := zA (below_drew1 HB.out); have a6 : 0 ≤ (a0 : Int) := zD; have a7 : a0 < (l0.length : Int) := zD; obtain ⟨a8, b5, a1, a2⟩ := at_T31 c3.out a0 a6 a7; have d1 := a2; have d2 := a1; cases b5; replace a1 := zx HB a1; replace a2 := zx HB a2; replace a6 := eq_true a6; replace a7 := eq_true a7; have a9 : 0 ≤ (a0 : Int) := zD; have b0 : a0 < (l1.length : Int) := zD; obtain ⟨b1, b6, a3, a4⟩ := at_T31 c5.out a0 a9 b0; have d3 := a4; have d4 := a3; cases b6; replace a3 := zx HB a3; replace a4 := zx HB a4; replace a9 := eq_true a9; replace b0 := eq_true b0
       refine start_ (n := 10) (S := fun w' => w'.cell? (a8.add ((a0).toNat * 2)) = some (.string ((rd_T31 l0 a0).f0)) ∧ w'.cell? ⟨(a8.add ((a0).toNat * 2)).block, (a8.add ((a0).toNat * 2)).off + 1, none⟩ = some (.string ((rd_T31 l0 a0).f1)) ∧ w'.cell? (b1.add ((a0).toNat * 2)) = some (.string ((rd_T31 l1 a0).f0)) ∧ w'.cell? ⟨(b1.add ((a0).toNat * 2)).block, (b1.add ((a0).toNat * 2)).off + 1, none⟩ = some (.string ((rd_T31 l1 a0).f1))) (ds := []) (Array.replicate 10 false) (by kernel_rfl) rfl rfl zO fun hHeld => ?_; refine with_tabW laws_eqFileS.tab6 laws_eqFileS.bits6 (fun HT_ HW_ => ?_)
       generalize wr.drew = e1 at HB a1 a2 a3 a4 hHeld ⊢; refine zp 0 17 ?_; refine zp 1 18 ?_; refine zp 2 19 ?_; refine zp 4 21 ?_; refine zp 5 22 ?_; refine zp 6 23 ?_; refine zt 3 20 ?_; refine zt 7 24 ?_
       refine zo 8 (some 25) fun K hK => ?_
       refine goes_ Tryd.func62 (by kernel_rfl) rfl #[.agg #[.string ((rd_T31 l0 a0).f0), .string ((rd_T31 l0 a0).f1)], .agg #[.string ((rd_T31 l1 a0).f0), .string ((rd_T31 l1 a0).f1)]] (by rfl) rfl rfl zM ?_
       with_reducible refine (laws_eqFile.calls ((rd_T31 l0 a0).f0) ((rd_T31 l0 a0).f1) ((rd_T31 l1 a0).f0) ((rd_T31 l1 a0).f1) true _ A8.out).mono ?_
       rintro e e2 ⟨rfl, hb⟩
       refine ⟨_, rfl, ?_⟩
       replace HB := zA (below_step (zB) hb)
       (try clear hb)
       refine hK.out _ _ zO fun hHeld => ?_
       clear hK K; refine zn ?_; refine zp 9 26 ?_
       refine done_ (done_of HT_.out (by kernel_rfl)) ?_
       try go_wp2
       go_roundg k2
       case measure => have := c6.out; have := c8.out; omega
       case rel => exact ⟨(wrap64 (a0 + 1)), zS, H', ⟨by have := c6.out; have := c8.out; omega⟩, ⟨zB⟩⟩
      obtain rfl := zm H
      try go_wp2
      replace HB := zA (below_drew1 HB.out); have a6 : 0 ≤ (a0 : Int) := zD; have a7 : a0 < (l0.length : Int) := zD; obtain ⟨a8, b5, a1, a2⟩ := at_T31 c3.out a0 a6 a7; have d1 := a2; have d2 := a1; cases b5; replace a1 := zx HB a1; replace a2 := zx HB a2; replace a6 := eq_true a6; replace a7 := eq_true a7; have a9 : 0 ≤ (a0 : Int) := zD; have b0 : a0 < (l1.length : Int) := zD; obtain ⟨b1, b6, a3, a4⟩ := at_T31 c5.out a0 a9 b0; have d3 := a4; have d4 := a3; cases b6; replace a3 := zx HB a3; replace a4 := zx HB a4; replace a9 := eq_true a9; replace b0 := eq_true b0
      refine start_ (n := 10) (S := fun w' => w'.cell? (a8.add ((a0).toNat * 2)) = some (.string ((rd_T31 l0 a0).f0)) ∧ w'.cell? ⟨(a8.add ((a0).toNat * 2)).block, (a8.add ((a0).toNat * 2)).off + 1, none⟩ = some (.string ((rd_T31 l0 a0).f1)) ∧ w'.cell? (b1.add ((a0).toNat * 2)) = some (.string ((rd_T31 l1 a0).f0)) ∧ w'.cell? ⟨(b1.add ((a0).toNat * 2)).block, (b1.add ((a0).toNat * 2)).off + 1, none⟩ = some (.string ((rd_T31 l1 a0).f1))) (ds := []) (Array.replicate 10 false) (by kernel_rfl) rfl rfl zO fun hHeld => ?_; refine with_tabW laws_eqFileS.tab6 laws_eqFileS.bits6 (fun HT_ HW_ => ?_)
      generalize wr.drew = e3 at HB a1 a2 a3 a4 hHeld ⊢; refine zp 0 17 ?_; refine zp 1 18 ?_; refine zp 2 19 ?_; refine zp 4 21 ?_; refine zp 5 22 ?_; refine zp 6 23 ?_; refine zt 3 20 ?_; refine zt 7 24 ?_
      refine zo 8 (some 25) fun K hK => ?_
      refine goes_ Tryd.func62 (by kernel_rfl) rfl #[.agg #[.string ((rd_T31 l0 a0).f0), .string ((rd_T31 l0 a0).f1)], .agg #[.string ((rd_T31 l1 a0).f0), .string ((rd_T31 l1 a0).f1)]] (by rfl) rfl rfl zM ?_
      with_reducible refine (laws_eqFile.calls ((rd_T31 l0 a0).f0) ((rd_T31 l0 a0).f1) ((rd_T31 l1 a0).f0) ((rd_T31 l1 a0).f1) false _ A8.out).mono ?_
      rintro e e4 ⟨rfl, hb⟩
      refine ⟨_, rfl, ?_⟩
      replace HB := zA (below_step (zB) hb)
      (try clear hb)
      refine hK.out _ _ zO fun hHeld => ?_
      clear hK K; refine zn ?_; refine zp 9 26 ?_
      refine done_ (done_of HT_.out (by kernel_rfl)) ?_
      try go_wp2
      go_ret
      exact ⟨zE, zB⟩
     obtain rfl := zm H
     go_wp2
     go_ret
     exact ⟨zE, zB⟩
/-! ### laws_markText: function 63 -/
mutual
def laws_markText.j0 : Nat → Int → Option (ByteArray)
 | 0, _ => none
 | k + 1, x0 => laws_markText.l0 k x0 (⟨#[]⟩ : ByteArray)
def laws_markText.l0 : Nat → Int → ByteArray → Option (ByteArray)
 | 0, _, _ => none
 | k + 1, x0, x3 => if x0 > 0 then ((some (([(wrap64 (48 + (Int.tmod x0 10))) % 256] : List Int) : List Int)).bind fun a0 => (if (strOfNums a0).size + x3.size ≤ 9223372036854775807 then (laws_markText.l0 k (wrap64 (Int.tdiv x0 10)) ((strOfNums a0) ++ x3)) else (none))) else (if 1 + x3.size ≤ 9223372036854775807 then (some ((⟨#[109]⟩ : ByteArray) ++ x3)) else (none))
end
def laws_markText.f (k : Nat) (a0 : Int) : Option (ByteArray) := if a0 ≤ 0 then (some (⟨#[109, 48]⟩ : ByteArray)) else (laws_markText.j0 k a0)
theorem laws_markText.calls (k : Nat) (a0 : Int) (r : ByteArray) (w : World) (h : laws_markText.f k a0 = some r) :
  Calls Tryd.prog 63 #[.int .i64 a0] w fun e w' => e = .returned (.string r) ∧ Below w.heap.size w w' := by
 have HB := zA (Below.refl w.heap.size w)
 unfold laws_markText.f at h
 have H := h
 clear h
 have a6 := zA H
 clear H
 go_enter Tryd.func63, Tryd.ntmps63
 go_upto_if 5 with (fail)
 go_cut [] (fun wc => ∃ (kq : Nat), Aside0 (laws_markText.j0 kq a0 = some r) ∧ Aside0 (kq ≤ k) ∧ Aside0 (Below w.heap.size w wc))
 case first =>
  have H := a6.out; clear a6; replace H := zI0 H
  rcases H with ⟨a3, H⟩ | ⟨a3, H⟩
  ·(first | rw [a3] | (simp only [i64_w, i32_w]; rw [a3]) | skip)
   obtain rfl := zm H
   go_wp2
   go_ret
   exact ⟨zE, zB⟩
  (first | rw [a3] | (simp only [i64_w, i32_w]; rw [a3]) | skip)
  have H' := zA H; clear H
  go_wp2
  go_meet
  case rel => exact ⟨_, (by first | exact H' | (subst_vars; exact H')), ⟨by first | omega | exact Nat.le_refl _⟩, ⟨zB⟩⟩
 case rest =>
  clear a6
  try clear p2
  try clear c3
  try clear a3
  obtain ⟨kq, HA, a8, HB⟩ := hcut
  cases kq with
  | zero => exact absurd HA.out (by simp [laws_markText.j0])
  | succ a9 =>
   have H := HA.out; clear HA; simp only [laws_markText.j0] at H; have H' := zA H; clear H
   go_wp2
   go_loopg [0, 3] a9 (fun kq v0 v3 w' => ∃ (a1 : Int) (a2 : ByteArray), v0 = .int .i64 a1 ∧ v3 = .string a2 ∧ Aside0 (laws_markText.l0 kq a1 a2 = some r) ∧ Aside0 (kq ≤ a9) ∧ Aside0 (Below w.heap.size w w'))
   case atStart => exact ⟨(a0), ((⟨#[]⟩ : ByteArray)), zS, zS, H', ⟨Nat.le_refl _⟩, ⟨zB⟩⟩
   case round =>
    clear H'
    try clear p2
    try clear c3
    try clear a3
    try clear p2
    obtain ⟨a1, a2, rfl, rfl, HA, b0, HB⟩ := hrel
    cases gk with
    | zero => exact absurd HA.out (by simp [laws_markText.l0])
    | succ k2 =>
     have H := HA.out; clear HA; simp only [laws_markText.l0] at H; replace H := zI1 H
     rcases H with ⟨c4, H⟩ | ⟨c4, H⟩
     ·have b2 : decide (0 < a1) = true := decide_eq_true c4; clear c4; obtain ⟨a5, a7⟩ : ∃ y_ : List Int, y_ = (([(wrap64 (48 + (Int.tmod a1 10))) % 256] : List Int)) := ⟨_, rfl⟩; replace H : (if (strOfNums a5).size + a2.size ≤ 9223372036854775807 then (laws_markText.l0 k2 (wrap64 (Int.tdiv a1 10)) ((strOfNums a5) ++ a2)) else (none)) = some r := zY a7 H; have b1 := zA a7; clear a7; replace H := zC0 H; obtain ⟨c5, H⟩ := H; have b4 := eq_true c5; have b5 := decide_eq_true c5
      try have b6 : (9223372036854775807 < (strOfNums a5).size + a2.size) = False := eq_false (Nat.not_lt.2 c5)
      have H' := zA H; clear H
      go_wp2_with (first | ((with_reducible refine gate_dst (N := 12) rfl ?_); refine Kd.R_lit (Kd.int .u8) _ 5 ?hg (N := 12) ?hd (xs := ([(wrap64 (48 + (Int.tmod a1 10))) % 256] : List Int)) (inner := [.int .u8 ((wrap64 (48 + (Int.tmod a1 10))) % 256)]) (ok := fun _ => True) ?hr ?hp (fun _ hk => hk) trivial (Below.refl _ _) (Nat.le_refl _) (by simp) ?_; (case hd => rfl); (case hg => rfl); (case hr => first | (go_simp; done) | (go_simp; rfl)); (case hp => exact (Reps.one (show Kd.M (Kd.int .u8) _ _ _ ((wrap64 (48 + (Int.tmod a1 10))) % 256) [.int .u8 ((wrap64 (48 + (Int.tmod a1 10))) % 256)] from rfl) (Reps.none _ _))); intro b7 w6 a4 hb hg_ hnew_; clear hg_ hnew_; (first | rw [← b1.out] at a4 | (simp only [Int.reduceToNat] at a4; rw [← b1.out] at a4)); have b3 := zA (Kd.R_lower a4 (below_size (zB))); replace HB := zA (below_step (zB) hb); clear hb a4; have b8 := own_string (P := Tryd.prog) Tryd.underlying36 Tryd.underlying5 Tryd.underlying9 (Kd.own_of_R b3.out)))
      go_roundg k2
      case measure => have := a8.out; have := b0.out; omega
      case rel => exact ⟨(wrap64 (Int.tdiv a1 10)), ((strOfNums a5) ++ a2), zS, zS, H', ⟨by have := a8.out; have := b0.out; omega⟩, ⟨zB⟩⟩
     have b2 : decide (0 < a1) = false := decide_eq_false c4; clear c4; replace H := zC0 H; obtain ⟨c9, H⟩ := H; have b9 := eq_true c9; have c0 := decide_eq_true c9
     try have c1 : (9223372036854775807 < 1 + a2.size) = False := eq_false (Nat.not_lt.2 c9)
     obtain rfl := zm H
     go_wp2
     go_ret
     exact ⟨zE, zB⟩
/-! ### laws_markFileS: function 15 -/
def laws_markFileS.l0 : Nat → List (S31) → Int → Int → Option (Int × (List (S31)))
 | 0, _, _, _ => none
 | k + 1, x0, x1, x5 => if x5 < (x0.length : Int) then ((laws_markText.f k x1).bind fun a1 => (if 0 ≤ x5 then ((some (x0.set (x5 : Int).toNat (⟨a1, (rd_T31 x0 x5).f1⟩ : S31) : List (S31))).bind fun a0 => ((laws_markText.f k (wrap64 (x1 + 1))).bind fun a2 => (laws_markFileS.l0 k (a0.set (x5 : Int).toNat (⟨(rd_T31 a0 x5).f0, a2⟩ : S31)) (wrap64 ((wrap64 (x1 + 1)) + 1)) (wrap64 (x5 + 1))))) else (none))) else (some (x1, x0))
def laws_markFileS.f (k : Nat) (l0 : List (S31)) (a1 : Int) : Option (Int × (List (S31))) := laws_markFileS.l0 k l0 a1 0
theorem laws_markFileS.calls (k : Nat) (a5 : Nat → Prop) (b2 : Value) (l0 : List (S31)) (a1 r1 : Int) (r2 : List (S31)) (w0 w : World) (hB : Below w0.heap.size w0 w) (e5 : Kd.R k31 31 w w0.heap.size a5 b2 l0) (h : laws_markFileS.f k l0 a1 = some (r1, r2)) :
  Calls Tryd.prog 15 #[b2, .int .i64 a1] w fun e w' => e = .returned (.int .i64 r1) ∧ Kd.R k31 31 w' w0.heap.size (fun k_ => (a5 k_ ∨ w.heap.size ≤ k_)) b2 r2 ∧ Below w0.heap.size w0 w' ∧ Kept w w' (fun k_ => a5 k_) := by
 have e6 := zA (show Kd.R k31 31 w w0.heap.size (fun k_ => (a5 k_ ∨ w.heap.size ≤ k_)) b2 l0 from Kd.R_mono e5 (fun k_ hk => (.inl hk)))
 have HK := zA (Kept.refl w (fun k_ => a5 k_))
 have g1 := zA hB.size
 have HB := zA hB
 clear hB
 unfold laws_markFileS.f at h
 have H := h
 clear h
 have H' := zA H
 clear H
 go_enter Tryd.func15, Tryd.ntmps15
 go_wp2
 go_loopg [1, 5] k (fun kq v1 v5 w' => ∃ (a3 : List (S31)) (a6 : Int) (a0 : Int), v1 = .int .i64 a6 ∧ v5 = .int .i64 a0 ∧ Aside0 (laws_markFileS.l0 kq a3 a6 a0 = some (r1, r2)) ∧ Aside0 (kq ≤ k) ∧ Aside0 (Kd.R k31 31 w' w0.heap.size (fun k_ => (a5 k_ ∨ w.heap.size ≤ k_)) b2 a3) ∧ Aside0 (Kept w w' (fun k_ => a5 k_)) ∧ Aside0 (Below w0.heap.size w0 w'))
 case atStart => exact ⟨(l0), (a1), (0), zS, zS, H', ⟨Nat.le_refl _⟩, ⟨zR e6.out⟩, ⟨by repeat (first | (with_reducible first | exact HK.out | apply Kept.alloc | apply Kept.drewN | apply Kept.drew) | exact HK.out)⟩, ⟨zB⟩⟩
 case round =>
  clear H'
  try clear c1
  try clear p2
  obtain ⟨a3, a6, a0, rfl, rfl, HA, c8, a2, HK, HB⟩ := hrel
  cases gk with
  | zero => exact absurd HA.out (by simp [laws_markFileS.l0])
  | succ k1 =>
   have H := HA.out; clear HA; simp only [laws_markFileS.l0] at H; replace H := zI0 H
   rcases H with ⟨e7, H⟩ | ⟨e7, H⟩
   ·replace H := Option.bind_eq_some_iff.mp H; obtain ⟨b1, c9, H⟩ := H
    try dsimp only at H
    have A4 := zA c9; clear c9; replace H := zD0 H; obtain ⟨g2, H⟩ := H; obtain ⟨a7, b4⟩ : ∃ y_ : List (S31), y_ = (a3.set (a0 : Int).toNat (⟨b1, (rd_T31 a3 a0).f1⟩ : S31)) := ⟨_, rfl⟩; replace H : ((laws_markText.f k1 (wrap64 (a6 + 1))).bind fun a8 => (laws_markFileS.l0 k1 (a7.set (a0 : Int).toNat (⟨(rd_T31 a7 a0).f0, a8⟩ : S31)) (wrap64 ((wrap64 (a6 + 1)) + 1)) (wrap64 (a0 + 1)))) = some (r1, r2) := zY b4 H; have e8 := zA b4; clear b4; replace H := Option.bind_eq_some_iff.mp H; obtain ⟨a8, d0, H⟩ := H
    try dsimp only at H
    have A7 := zA d0; clear d0; obtain ⟨b5, b6⟩ : ∃ y_ : List (S31), y_ = (a7.set (a0 : Int).toNat (⟨(rd_T31 a7 a0).f0, a8⟩ : S31)) := ⟨_, rfl⟩; replace H : (laws_markFileS.l0 k1 b5 (wrap64 ((wrap64 (a6 + 1)) + 1)) (wrap64 (a0 + 1))) = some (r1, r2) := zY b6 H; have e9 := zA b6; clear b6; have H' := zA H; clear H; obtain ⟨g3, b3, f2⟩ := Kd.R_slice a2.out; subst f2
    go_wp2_with (first | ((with_reducible refine zq 63 ?_); refine zg (some 15) Tryd.func63 #[.int .i64 a6] ?_; (with_reducible refine (laws_markText.calls k1 a6 b1 _ A4.out).mono ?_); rintro e a9 ⟨rfl, hb⟩; refine ⟨_, rfl, ?_⟩; replace a2 := zr a2 hb; replace HK := zA (Kept.below (S := (fun k_ => a5 k_)) (by repeat (first | (with_reducible first | exact HK.out | apply Kept.alloc | apply Kept.drewN | apply Kept.drew) | exact HK.out)) hb); replace HB := zA (below_step (zB) hb); (try clear hb); have p6 : 0 ≤ (a0 : Int) := zD; have q6 : (a0 : Int) < ((a3.length : Int) : Int) := zD; obtain ⟨a4, g4, d1, d2, f3, g5, d3⟩ := Kd.R_form a2.out (by omega); (first | cases d1 | (injection d1 with ea_ en_ ec_; (first | subst ea_ | (injection ea_ with ea_; subst ea_)); subst ec_; clear en_)); have d4 := zA d2; have g6 := zA d3; clear d2 f3 d3; have g7 := zA (show (a5 a4 ∨ w.heap.size ≤ a4) from (a2.out.1 _ rfl)); obtain ⟨g8, f4, d5, b7, b8⟩ := Kd.R_elem a2.out z31 (a0 : Int) p6 q6; obtain rfl := k31_openM d5; have g9 : a9.cell? ⟨a4, (a0 : Int).toNat * 2, none⟩ = some (.string ((rd_T31 a3 a0).f0)) := b7 0 _ rfl; have h0 : a9.cell? ⟨a4, (a0 : Int).toNat * 2 + 1, none⟩ = some (.string ((rd_T31 a3 a0).f1)) := b7 1 _ rfl; have h1 : a9.frozen? ⟨a4, (a0 : Int).toNat * 2, none⟩ = false := b8 0; have h2 : a9.frozen? ⟨a4, (a0 : Int).toNat * 2 + 1, none⟩ = false := b8 1; clear f4 b7 b8; (try clear d5); replace p6 := eq_true p6; replace q6 := eq_true q6; have d6 := zA (show Kd.R k31 31 a9 w0.heap.size (fun k_ => (a5 k_ ∨ w.heap.size ≤ k_)) (.slice (some ⟨a4, 0, none⟩) a3.length b3) a3 from (zR a2.out)); obtain ⟨h3, d7, d8, b9, d9⟩ := Kd.R_elem d6.out z31 (a0 : Int) (zD) (by have h_ : (a0 : Int) < ((a3.length : Int) : Int) := zD; first | exact h_ | (have e_ := (Kd.R_reads' a2.out).1; omega) | simpa using h_); obtain rfl := k31_openM d8; have c0 := Kd.R_seg d6.out (a0 : Int) (zD) (by have h_ : (a0 : Int) < ((a3.length : Int) : Int) := zD; first | exact h_ | (have e_ := (Kd.R_reads' a2.out).1; omega) | simpa using h_) (seg := [.string b1]) (j := 0) d7 b9 (show 1 ≤ 2 from by decide) (x' := (⟨b1, (rd_T31 a3 a0).f1⟩ : S31)) (k31_mkM _ _ _ (⟨b1, (rd_T31 a3 a0).f1⟩ : S31) ) (fun _ hk => hk); have f5 := b9 0 _ rfl; (try simp only [show (k31).sz = 2 from rfl, Nat.mul_one, Nat.add_zero] at f5); have f6 := d9 0; (try simp only [show (k31).sz = 2 from rfl, Nat.mul_one, Nat.add_zero] at f6); clear d7 b9 d9; (try clear d8)) | ((with_reducible refine gate_store (t := 9) (p := 17) rfl ?_); refine store_event (t := 9) (p := 17) (v := ?vo_w12) (w1 := (a9.setCell ⟨a4, (a0 : Int).toNat * 2, none⟩ (.string b1))) ?hg ?ho ?hn ?hr ?_; (case ho => rfl); (case hg => rfl); (case hn => rfl); (case hr => first | (go_simp; done) | (go_simp; rfl)); intro c2 hw; have hg : a9.grownBy c2 (some a4) := (by rw [hw]; exact c0.2); have hp_ : Kd.R k31 31 c2 w0.heap.size (fun k_ => (a5 k_ ∨ w.heap.size ≤ k_)) (.slice (some ⟨a4, 0, none⟩) a3.length b3) a7 := (by rw [hw, e8.out]; exact c0.1); clear c0; replace HB := zA ((by rw [hw]; exact below_set (HB.out) d4.out : Below w0.heap.size w0 c2)); replace HK := zA (Kept.of_grown (S := (fun k_ => a5 k_)) hg (by repeat (first | (with_reducible first | exact HK.out | apply Kept.alloc | apply Kept.drewN | apply Kept.drew) | exact HK.out)) (fun k_ e_ => (a2.out.1 k_ e_))); replace a2 := zA (hp_); clear hg hw hp_) | ((with_reducible refine zq 63 ?_); refine zg (some 23) Tryd.func63 #[.int .i64 (wrap64 (a6 + 1))] ?_; (with_reducible refine (laws_markText.calls k1 (wrap64 (a6 + 1)) a8 _ A7.out).mono ?_); rintro e b0 ⟨rfl, hb⟩; refine ⟨_, rfl, ?_⟩; replace a2 := zr a2 hb; replace HK := zA (Kept.below (S := (fun k_ => a5 k_)) (by repeat (first | (with_reducible first | exact HK.out | apply Kept.alloc | apply Kept.drewN | apply Kept.drew) | exact HK.out)) hb); replace HB := zA (below_step (zB) hb); (try clear hb); have p8 : 0 ≤ (a0 : Int) := zD; have q8 : (a0 : Int) < ((a3.length : Int) : Int) := zD; obtain ⟨h4, f7, e0, c3, c4⟩ := Kd.R_elem a2.out z31 (a0 : Int) p8 q8; obtain rfl := k31_openM e0; have h5 : b0.cell? ⟨a4, (a0 : Int).toNat * 2, none⟩ = some (.string ((rd_T31 a7 a0).f0)) := c3 0 _ rfl; have h6 : b0.cell? ⟨a4, (a0 : Int).toNat * 2 + 1, none⟩ = some (.string ((rd_T31 a7 a0).f1)) := c3 1 _ rfl; have h7 : b0.frozen? ⟨a4, (a0 : Int).toNat * 2, none⟩ = false := c4 0; have h8 : b0.frozen? ⟨a4, (a0 : Int).toNat * 2 + 1, none⟩ = false := c4 1; clear f7 c3 c4; (try clear e0); replace p8 := eq_true p8; replace q8 := eq_true q8; have e1 := zA (show Kd.R k31 31 b0 w0.heap.size (fun k_ => (a5 k_ ∨ w.heap.size ≤ k_)) (.slice (some ⟨a4, 0, none⟩) a3.length b3) a7 from (zR a2.out)); obtain ⟨h9, e2, e3, c5, e4⟩ := Kd.R_elem e1.out z31 (a0 : Int) (zD) (by have h_ : (a0 : Int) < ((a3.length : Int) : Int) := zD; first | exact h_ | (have e_ := (Kd.R_reads' a2.out).1; omega) | simpa using h_); obtain rfl := k31_openM e3; have c6 := Kd.R_seg e1.out (a0 : Int) (zD) (by have h_ : (a0 : Int) < ((a3.length : Int) : Int) := zD; first | exact h_ | (have e_ := (Kd.R_reads' a2.out).1; omega) | simpa using h_) (seg := [.string a8]) (j := 1) e2 c5 (show 2 ≤ 2 from by decide) (x' := (⟨(rd_T31 a7 a0).f0, a8⟩ : S31)) (k31_mkM _ _ _ (⟨(rd_T31 a7 a0).f0, a8⟩ : S31) ) (fun _ hk => hk); have f8 := c5 1 _ rfl; (try simp only [show (k31).sz = 2 from rfl, Nat.mul_one, Nat.add_zero] at f8); have f9 := e4 1; (try simp only [show (k31).sz = 2 from rfl, Nat.mul_one, Nat.add_zero] at f9); clear e2 c5 e4; (try clear e3)) | ((with_reducible refine gate_store (t := 9) (p := 25) rfl ?_); refine store_event (t := 9) (p := 25) (v := ?vo_w15) (w1 := (b0.setCell ⟨a4, (a0 : Int).toNat * 2 + 1, none⟩ (.string a8))) ?hg ?ho ?hn ?hr ?_; (case ho => rfl); (case hg => rfl); (case hn => rfl); (case hr => first | (go_simp; done) | (go_simp; rfl)); intro c7 hw; have hg : b0.grownBy c7 (some a4) := (by rw [hw]; exact c6.2); have hp_ : Kd.R k31 31 c7 w0.heap.size (fun k_ => (a5 k_ ∨ w.heap.size ≤ k_)) (.slice (some ⟨a4, 0, none⟩) a3.length b3) b5 := (by rw [hw, e9.out]; exact c6.1); clear c6; replace HB := zA ((by rw [hw]; exact below_set (HB.out) d4.out : Below w0.heap.size w0 c7)); replace HK := zA (Kept.of_grown (S := (fun k_ => a5 k_)) hg (by repeat (first | (with_reducible first | exact HK.out | apply Kept.alloc | apply Kept.drewN | apply Kept.drew) | exact HK.out)) (fun k_ e_ => (a2.out.1 k_ e_))); replace a2 := zA (hp_); clear hg hw hp_))
    go_roundg k1
    case measure => have := c8.out; omega
    case rel => exact ⟨(b5), (wrap64 ((wrap64 (a6 + 1)) + 1)), (wrap64 (a0 + 1)), zS, zS, H', ⟨by have := c8.out; omega⟩, ⟨zR a2.out⟩, ⟨by repeat (first | (with_reducible first | exact HK.out | apply Kept.alloc | apply Kept.drewN | apply Kept.drew) | exact HK.out)⟩, ⟨zB⟩⟩
   simp only [zU] at H; obtain ⟨rfl, rfl⟩ := H; obtain ⟨i0, i1, g0⟩ := Kd.R_slice a2.out; subst g0
   go_wp2
   go_ret
   exact ⟨zE, zR a2.out, zB, by repeat (first | (with_reducible first | exact HK.out | apply Kept.alloc | apply Kept.drewN | apply Kept.drew) | exact HK.out)⟩
end Go.Proofs.YtbaeljcnbkeipaaDoor.PGC
